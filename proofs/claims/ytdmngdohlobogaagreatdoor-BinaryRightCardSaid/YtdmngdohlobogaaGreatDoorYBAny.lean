import Derived.Test.YtdmngdohlobogaaGreatDoorYBJust
namespace Go.Proofs.YtdmngdohlobogaaGreatDoor.Asc
open Go Go.RowKit Go.Proofs.YtdmngdohlobogaaGreatDoorW.PrintWords Go.Proofs.YtdmngdohlobogaaGreatDoorW.PrintLast Go.Proofs.YtdmngdohlobogaaGreatDoorW.PrintMore
set_option linter.unusedVariables false
set_option linter.unusedSimpArgs false
theorem latchesB_off {w : World} {R p a0 n : Nat} {b : Int} {s : ByteArray} (hR : SD w R s p b) (hb : 0 ≤ b) :
  Calls Tryz.prog 19 #[.pointer (some ⟨R,0,none⟩),.int .i64 (a0 : Int),.int .i64 (n : Int)] w fun e w' => e = .returned (.slice none 0 0) ∧ w' = w:=by
 have c2 : w.cell? ⟨R,2,none⟩ = some (.int .i64 b):=bC_ hR 2
 have d2 : decide (b < 0) = false:=decide_eq_false (by omega)
 clear hR hb
 go_enter Tryz.func19,Tryz.ntmps19
 go_wp2
 go_loopg [7,8] 1 (fun kq v7 v8 w' => v7 = .slice none 0 0 ∧ v8 = .int .i64 0 ∧ w' = w)
 case atStart => exact ⟨rfl,rfl,rfl⟩
 case round =>
  obtain ⟨rfl,rfl,rfl⟩:=hrel
  by_cases hn : n = 0
  ·subst hn
   go_wp2
   go_ret
   exact ⟨rfl,rfl⟩
  ·have d1 : decide ((0 : Int) < (n : Int)) = true:=decide_eq_true (by omega)
   have d1' : decide (0 < n) = true:=decide_eq_true (by omega)
   clear hn
   go_wp2
   go_ret
   exact ⟨rfl,rfl⟩
set_option maxRecDepth 100000 in
theorem justB_off {w : World} {R p n : Nat} {b : Int} {s : ByteArray} (hR : SD w R s p b) (hb : 0 ≤ b) :
  Calls Tryz.prog 21 #[.pointer (some ⟨R,0,none⟩),.int .i64 (n : Int)] w fun e w' => e = .returned (.slice none 0 0) ∧ w' = w:=by
 have c2 : w.cell? ⟨R,2,none⟩ = some (.int .i64 b):=bC_ hR 2
 have d2 : decide (b < 0) = false:=decide_eq_false (by omega)
 clear hR hb
 go_enter Tryz.func21,Tryz.ntmps21
 go_wp2
 go_loopg [5,6] 1 (fun kq v5 v6 w' => v5 = .slice none 0 0 ∧ v6 = .int .i64 0 ∧ w' = w)
 case atStart => exact ⟨rfl,rfl,rfl⟩
 case round =>
  obtain ⟨rfl,rfl,rfl⟩:=hrel
  by_cases hn : n = 0
  ·subst hn
   go_wp2
   go_loopg [9,51] 1 (fun kq v9 v51 w' => v9 = .slice none 0 0 ∧ v51 = .int .i64 0 ∧ w' = wr)
   case atStart => exact ⟨rfl,rfl,rfl⟩
   case round =>
    obtain ⟨rfl,rfl,rfl⟩:=hrel
    go_wp2
    go_ret
    exact ⟨rfl,rfl⟩
  ·have d1 : decide ((0 : Int) < (n : Int)) = true:=decide_eq_true (by omega)
   have d1' : decide (0 < n) = true:=decide_eq_true (by omega)
   clear hn
   go_wp2
   go_loopg [9,51] 1 (fun kq v9 v51 w' => v9 = .slice none 0 0 ∧ v51 = .int .i64 0 ∧ w' = wr)
   case atStart => exact ⟨rfl,rfl,rfl⟩
   case round =>
    obtain ⟨rfl,rfl,rfl⟩:=hrel
    go_wp2
    go_ret
    exact ⟨rfl,rfl⟩
def SS (w : World) (R : Nat) (s : ByteArray) (st : Except Nat Nat) : Prop:=match st with
 |.ok p => SD w R s p (-1) ∧ p ≤ s.size
 |.error x => ∃ q,SD w R s q (x : Int)
theorem SS.lt {w : World} {R : Nat} {s : ByteArray} {st : Except Nat Nat} (h : SS w R s st) : R < w.heap.size:=by
 cases st with
 |ok p => exact SD.lt h.1
 |error x => obtain ⟨q,h⟩:=h;exact SD.lt h
theorem SS.blk {w : World} {R : Nat} {s : ByteArray} {st : Except Nat Nat} (h : SS w R s st) : ∃ cs : Array Value,w.heap[R]? = some (.cells cs 47 (0,0)):=by
 cases st with
 |ok p => exact ⟨_,h.1⟩
 |error x => obtain ⟨q,h⟩:=h;exact ⟨_,h⟩
theorem SS.keep {w W : World} {R : Nat} {s : ByteArray} {st : Except Nat Nat} (h : SS w R s st) (hk : W.heap[R]? = w.heap[R]?) : SS W R s st:=by
 cases st with
 |ok p => exact ⟨hk.trans h.1,h.2⟩
 |error x => obtain ⟨q,h⟩:=h;exact ⟨q,hk.trans h⟩
def step {α : Type} (st : Except Nat Nat) (f : Nat → Except Nat (α × Nat)) : Except Nat (α × Nat):=match st with
 |.error x => .error x
 |.ok p => f p
def placeOf {α : Type} (r : Except Nat (α × Nat)) : Except Nat Nat:=match r with
 |.error x => .error x
 |.ok (_,q) => .ok q
def RowEnd {α : Type} (d : Kd α) (t : Nat) (w : World) (R : Nat) (s : ByteArray) (r : Except Nat (List α × Nat)) (e : Ending) (w' : World) : Prop :=
 ∃ v l,e = .returned v ∧ Kd.R d t w' w.heap.size (fun _ => True) v l ∧ SS w' R s (placeOf r) ∧ KR w w' R ∧ ∀ l' q,r = .ok (l',q) → l = l'
theorem latchesB_place {s : ByteArray} : ∀ (n a p : Nat) {l : List S108} {q : Nat},p ≤ s.size → latchesB s a n p = .ok (l,q) → q ≤ s.size
 |0,a,p,l,q,hp,h => by
  rw [latchesB] at h
  injection h with h
  injection h with h1 h2
  omega
 |n + 1,a,p,l,q,hp,h => by
  rw [latchesB] at h
  split at h
  ·cases h
  ·rename_i x q1 hr
   split at h
   ·cases h
   ·rename_i l2 r hl
    injection h with h
    injection h with h1 h2
    have:=latchesB_place n (a + 1) q1 (rowB_place hp hr).2 hl
    omega
theorem sizesB_place {s : ByteArray} : ∀ (n p : Nat) {l : List Int} {q : Nat},p ≤ s.size → sizesB s n p = .ok (l,q) → q ≤ s.size
 |0,p,l,q,hp,h => by
  rw [sizesB] at h
  injection h with h
  injection h with h1 h2
  omega
 |n + 1,p,l,q,hp,h => by
  rw [sizesB] at h
  split at h
  ·cases h
  ·rename_i x q1 hr
   split at h
   ·cases h
   ·split at h
    ·cases h
    ·rename_i l2 r hl
     injection h with h
     injection h with h1 h2
     have:=sizesB_place n q1 (rowB_place hp hr).2 hl
     omega
theorem justB_place {s : ByteArray} : ∀ (z : List Int) (p : Nat) {l : List (List Int)} {q : Nat},p ≤ s.size → justB s z p = .ok (l,q) → q ≤ s.size
 |[],p,l,q,hp,h => by
  rw [justB] at h
  injection h with h
  injection h with h1 h2
  omega
 |k :: ks,p,l,q,hp,h => by
  rw [justB] at h
  split at h
  ·cases h
  ·rename_i x q1 hr
   split at h
   ·cases h
   ·rename_i l2 r hl
    injection h with h
    injection h with h1 h2
    have:=justB_place ks q1 (listB_place _ _ hp hr) hl
    omega
theorem justAllB_place {s : ByteArray} {n p : Nat} {l : List (List Int)} {q : Nat} (hp : p ≤ s.size) (h : justAllB s n p = .ok (l,q)) : q ≤ s.size:=by
 unfold justAllB at h
 split at h
 ·cases h
 ·rename_i z q1 hz
  exact justB_place z q1 (sizesB_place n p hp hz) h
theorem listAny {w0 w : World} {R n : Nat} {s : ByteArray} {st : Except Nat Nat} (hG : GV w0) (hB : Below w0.heap.size w0 w) (hR0 : w0.heap.size ≤ R) (h : SS w R s st) (hs : s.size ≤ 262144) (hn : n ≤ 16384) :
  Calls Tryz.prog 20 #[.pointer (some ⟨R,0,none⟩),.int .i64 (n : Int)] w (RowEnd (Kd.int .i64) 3 w R s (step st (listB s n))):=by
 cases st with
 |error x =>
  obtain ⟨q,h⟩:=h
  refine (listB_off h (by omega)).mono ?_
  rintro e w' ⟨rfl,rfl⟩
  exact ⟨_,[],rfl,Kd.R_nil _ _ _ _ _,⟨q,h⟩,KR.refl _ _,fun _ _ h => by cases h⟩
 |ok p =>
  refine (listB_calls hG hB hR0 h.1 h.2 hs hn).mono ?_
  intro e w' he
  show RowEnd _ _ _ _ _ (listB s n p) _ _
  cases hl : listB s n p with
  |error x =>
   rw [hl] at he
   obtain ⟨v,l,q,rfl,hr,hsd,hkr⟩:=he
   exact ⟨_,_,rfl,hr,⟨q,hsd⟩,hkr,fun _ _ h => by cases h⟩
  |ok lq =>
   obtain ⟨l,q⟩:=lq
   rw [hl] at he
   obtain ⟨v,rfl,hr,hsd,hkr⟩:=he
   exact ⟨_,_,rfl,hr,⟨hsd,listB_place _ _ h.2 hl⟩,hkr,fun _ _ h => by injection h with h;injection h⟩
theorem latchesAny {w0 w : World} {R a0 n : Nat} {s : ByteArray} {st : Except Nat Nat} (hG : GV w0) (hB : Below w0.heap.size w0 w) (hR0 : w0.heap.size ≤ R) (h : SS w R s st) (hs : s.size ≤ 262144) (hn : n ≤ 16384) (ha : a0 ≤ 16384) :
  Calls Tryz.prog 19 #[.pointer (some ⟨R,0,none⟩),.int .i64 (a0 : Int),.int .i64 (n : Int)] w (RowEnd k108 61 w R s (step st (latchesB s a0 n))):=by
 cases st with
 |error x =>
  obtain ⟨q,h⟩:=h
  refine (latchesB_off h (by omega)).mono ?_
  rintro e w' ⟨rfl,rfl⟩
  exact ⟨_,[],rfl,Kd.R_nil _ _ _ _ _,⟨q,h⟩,KR.refl _ _,fun _ _ h => by cases h⟩
 |ok p =>
  refine (latchesB_calls hG hB hR0 h.1 h.2 hs hn ha).mono ?_
  intro e w' he
  show RowEnd _ _ _ _ _ (latchesB s a0 n p) _ _
  cases hl : latchesB s a0 n p with
  |error x =>
   rw [hl] at he
   obtain ⟨v,l,q,rfl,hr,hsd,hkr⟩:=he
   exact ⟨_,_,rfl,hr,⟨q,hsd⟩,hkr,fun _ _ h => by cases h⟩
  |ok lq =>
   obtain ⟨l,q⟩:=lq
   rw [hl] at he
   obtain ⟨v,rfl,hr,hsd,hkr⟩:=he
   exact ⟨_,_,rfl,hr,⟨hsd,latchesB_place _ _ _ h.2 hl⟩,hkr,fun _ _ h => by injection h with h;injection h⟩
theorem justAny {w0 w : World} {R n : Nat} {s : ByteArray} {st : Except Nat Nat} (hG : GV w0) (hB : Below w0.heap.size w0 w) (hR0 : w0.heap.size ≤ R) (h : SS w R s st) (hs : s.size ≤ 262144) (hn : n ≤ 16384) :
  Calls Tryz.prog 21 #[.pointer (some ⟨R,0,none⟩),.int .i64 (n : Int)] w (RowEnd kSL 22 w R s (step st (justAllB s n))):=by
 cases st with
 |error x =>
  obtain ⟨q,h⟩:=h
  refine (justB_off h (by omega)).mono ?_
  rintro e w' ⟨rfl,rfl⟩
  exact ⟨_,[],rfl,Kd.R_nil _ _ _ _ _,⟨q,h⟩,KR.refl _ _,fun _ _ h => by cases h⟩
 |ok p =>
  refine (justB_calls hG hB hR0 h.1 h.2 hs hn).mono ?_
  intro e w' he
  show RowEnd _ _ _ _ _ (justAllB s n p) _ _
  cases hl : justAllB s n p with
  |error x =>
   rw [hl] at he
   obtain ⟨v,l,q,rfl,hr,hsd,hkr⟩:=he
   exact ⟨_,_,rfl,hr,⟨q,hsd⟩,hkr,fun _ _ h => by cases h⟩
  |ok lq =>
   obtain ⟨l,q⟩:=lq
   rw [hl] at he
   obtain ⟨v,rfl,hr,hsd,hkr⟩:=he
   exact ⟨_,_,rfl,hr,⟨hsd,justAllB_place h.2 hl⟩,hkr,fun _ _ h => by injection h with h;injection h⟩
end Go.Proofs.YtdmngdohlobogaaGreatDoor.Asc

