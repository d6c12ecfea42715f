import Derived.Test.YtojepjkpnponoaaDoorEANumber
import Derived.Test.YtojepjkpnponoaaDoorEFrags
import Derived.Test.YtojepjkpnponoaaDoorEAsc0
import Derived.Test.YtojepjkpnponoaaDoorEAsc3
import Derived.Test.YtojepjkpnponoaaDoorEGV
set_option linter.unusedSimpArgs false
section
namespace Go.Proofs.YtojepjkpnponoaaDoor.Asc
open Go Go.RowKit Go.Proofs.YtojepjkpnponoaaDoorW.PrintWords
open Go.Proofs.YtojepjkpnponoaaDoor.Stim (fragsB)
set_option linter.unusedVariables false
def numsA : List ByteArray → Option (List Int)
  | [] => some []
  | x :: l => if (numA x).2 = true then (numsA l).map ((numA x).1 :: ·) else none
theorem numsA_snoc (l : List ByteArray) (x : ByteArray) : numsA (l ++ [x]) = (numsA l).bind fun ns => if (numA x).2 = true then some (ns ++ [(numA x).1]) else none:=by
  induction l with
  | nil => cases h : (numA x).2 <;> simp [numsA,h]
  | cons y l ih =>
    simp only [List.cons_append,numsA,ih]
    cases (numA y).2 <;> cases numsA l <;> cases (numA x).2 <;> simp
theorem numsA_len : ∀ (l : List ByteArray) (ns : List Int),numsA l = some ns → ns.length = l.length
  | [],ns,h => by
    simp [numsA] at h
    subst h
    rfl
  | x :: l,ns,h => by
    simp only [numsA] at h
    split at h
    · obtain ⟨qs,hq,rfl⟩:=Option.map_eq_some_iff.1 h
      simp [numsA_len l qs hq]
    · cases h
theorem numsA_prefix {l m : List ByteArray} (h : numsA l = none) (hp : l <+: m) : numsA m = none:=by
  obtain ⟨k,rfl⟩:=hp
  induction l with
  | nil => simp [numsA] at h
  | cons x l ih =>
    simp only [List.cons_append,numsA] at h ⊢
    split at h
    · rename_i hx
      rw [if_pos hx,ih (by simpa using h)]
      rfl
    · rename_i hx
      rw [if_neg hx]
def numbersF (l : ByteArray) : Option (List Int):=numsA (fragsB l)
def lineF (s : ByteArray) (p : Nat) : Option (ByteArray × Nat) :=
  if Lib.indexByte (s.extract p s.size).data.toList 10 < 0 then none
  else some (s.extract p (p + (Lib.indexByte (s.extract p s.size).data.toList 10).toNat),p + (Lib.indexByte (s.extract p s.size).data.toList 10).toNat + 1)
def rowF (s : ByteArray) (p least most : Nat) : Option (List Int × Nat) :=
  (lineF s p).bind fun q => (numbersF q.1).bind fun ns => if ns.length < least ∨ most < ns.length then none else some (ns,q.2)
def listF (s : ByteArray) : Nat → Nat → Except Nat (List Int × Nat)
  | 0,p => .ok ([],p)
  | n + 1,p => match rowF s p 1 1 with
    | none => .error p
    | some (x,q) => match listF s n q with
      | .error e => .error e
      | .ok (l,r) => .ok (x.getD 0 0 :: l,r)
def latchOf (x : List Int) : S108:=⟨x.getD 0 0,x.getD 1 0,x.getD 2 0⟩
def latchesF (s : ByteArray) : Nat → Nat → Except Nat (List S108 × Nat)
  | 0,p => .ok ([],p)
  | n + 1,p => match rowF s p 2 3 with
    | none => .error p
    | some (x,q) => match latchesF s n q with
      | .error e => .error e
      | .ok (l,r) => .ok (latchOf x :: l,r)
def andOf (x : List Int) : S125:=⟨x.getD 0 0,x.getD 1 0,x.getD 2 0⟩
def andsF (s : ByteArray) : Nat → Nat → Except Nat (List S125 × Nat)
  | 0,p => .ok ([],p)
  | n + 1,p => match rowF s p 3 3 with
    | none => .error p
    | some (x,q) => match andsF s n q with
      | .error e => .error e
      | .ok (l,r) => .ok (andOf x :: l,r)
def sizesF' (s : ByteArray) : Nat → Nat → Except Nat (List Int × Nat)
  | 0,p => .ok ([],p)
  | n + 1,p => match rowF s p 1 1 with
    | none => .error p
    | some (x,q) => if 16384 < x.getD 0 0 then .error p else match sizesF' s n q with
      | .error e => .error e
      | .ok (l,r) => .ok (x.getD 0 0 :: l,r)
def justF (s : ByteArray) : List Int → Nat → Except Nat (List (List Int) × Nat)
  | [],p => .ok ([],p)
  | k :: ks,p => match listF s k.toNat p with
    | .error e => .error e
    | .ok (x,q) => match justF s ks q with
      | .error e => .error e
      | .ok (l,r) => .ok (x :: l,r)
end Go.Proofs.YtojepjkpnponoaaDoor.Asc
end
section
namespace Go.Proofs.YtojepjkpnponoaaDoor.Asc
open Go Go.RowKit Go.Proofs.YtojepjkpnponoaaDoorW.PrintWords Go.Proofs.YtojepjkpnponoaaDoorW.PrintLast Go.Proofs.YtojepjkpnponoaaDoorW.PrintMore
set_option linter.unusedVariables false
theorem wp_normal' {P : Program} {c : Code} {Q : Exit → Act → World → Prop} {a : Act} {w : World} (h : c.wp P (fun e a w => e = .normal ∧ Q .normal a w) a w) : c.wp P Q a w :=
  Code.wp_mono (fun _ _ _ hq => by
    obtain ⟨rfl,hq⟩:=hq
    exact hq) h
structure CA where
  A1 : Option Addr
  A2 : Option Addr
  A3 : Option Addr
  A4 : Option Addr
  A5 : Option Addr
  A6 : Option Addr
  A7 : Option Addr
  A8 : Option Addr
  A9 : Option Addr
  A10 : Option Addr
  c1 : Nat
  c2 : Nat
  c3 : Nat
  c4 : Nat
  c5 : Nat
  c6 : Nat
  c7 : Nat
  c8 : Nat
  c9 : Nat
  c10 : Nat
def cellsC (c : S65) (a : CA) : Array Value:=#[.int .i64 c.f0,.slice a.A1 c.f1.length a.c1,.slice a.A2 c.f2.length a.c2,.slice a.A3 c.f3.length a.c3,.slice a.A4 c.f4.length a.c4,.slice a.A5 c.f5.length a.c5,.slice a.A6 c.f6.length a.c6,.slice a.A7 c.f7.length a.c7,.slice a.A8 c.f8.length a.c8,.slice a.A9 c.f9.length a.c9,.slice a.A10 c.f10.length a.c10]
structure CR (w : World) (c : S65) (a : CA) : Prop where
  r1 : Kd.C (Kd.int .i64) w a.A1 c.f1.length c.f1
  r2 : Kd.C k108 w a.A2 c.f2.length c.f2
  r3 : Kd.C (Kd.int .i64) w a.A3 c.f3.length c.f3
  r4 : Kd.C (Kd.int .i64) w a.A4 c.f4.length c.f4
  r5 : Kd.C (Kd.int .i64) w a.A5 c.f5.length c.f5
  r6 : Kd.C (Kd.slice 3 (Kd.int .i64)) w a.A6 c.f6.length c.f6
  r7 : Kd.C (Kd.int .i64) w a.A7 c.f7.length c.f7
  r8 : Kd.C k125 w a.A8 c.f8.length c.f8
  r9 : Kd.C k59 w a.A9 c.f9.length c.f9
  r10 : Kd.C Kd.string w a.A10 c.f10.length c.f10
theorem CR.below {w W : World} {c : S65} {a : CA} (h : CR w c a) (hb : Below w.heap.size w W) : CR W c a :=
  ⟨Kd.C_below h.r1 hb,Kd.C_below h.r2 hb,Kd.C_below h.r3 hb,Kd.C_below h.r4 hb,Kd.C_below h.r5 hb,Kd.C_below h.r6 hb,Kd.C_below h.r7 hb,Kd.C_below h.r8 hb,Kd.C_below h.r9 hb,Kd.C_below h.r10 hb⟩
def flatM (l : List S40) : List Value:=l.flatMap fun m => [.int .i64 m.f0,.int .i64 m.f1]
theorem flatM_length (l : List S40) : (flatM l).length = 2 * l.length:=by
  induction l with
  | nil => rfl
  | cons m l ih =>
    simp only [flatM,List.flatMap_cons,List.length_append,List.length_cons,List.length_nil] at ih ⊢
    omega
theorem flatM_cons (m : S40) (l : List S40) : flatM (m :: l) = .int .i64 m.f0 :: .int .i64 m.f1 :: flatM l:=by simp [flatM]
theorem flatM_get : ∀ (l : List S40) (i : Nat) (h : i < l.length),(flatM l)[i * 2]? = some (.int .i64 l[i].f0) ∧ (flatM l)[i * 2 + 1]? = some (.int .i64 l[i].f1)
  | m :: l,0,_ => by rw [flatM_cons];exact ⟨rfl,rfl⟩
  | m :: l,i + 1,h => by
    have:=flatM_get l i (by simpa using h)
    rw [flatM_cons,show (i + 1) * 2 = i * 2 + 2 by omega]
    simpa using this
theorem flatM_set : ∀ (l : List S40) (i : Nat) (m : S40),i < l.length → ((flatM l).set (i * 2) (.int .i64 m.f0)).set (i * 2 + 1) (.int .i64 m.f1) = flatM (l.set i m)
  | x :: l,0,m,_ => by rw [List.set_cons_zero,flatM_cons,flatM_cons];rfl
  | x :: l,i + 1,m,h => by
    have:=flatM_set l i m (by simpa using h)
    rw [List.set_cons_succ,flatM_cons,flatM_cons]
    rw [show (i + 1) * 2 = i * 2 + 2 by omega]
    exact congrArg (fun t => Value.int .i64 x.f0 :: Value.int .i64 x.f1 :: t) this
def ByAt (w : World) (b : Nat) (l : List S40) : Prop:=∃ cur,w.heap[b]? = some (.cells cur 169 (0,0)) ∧ flatM l <+: cur.toList
theorem prefix_get {α : Type} {l m : List α} (h : l <+: m) {i : Nat} {x : α} (hx : l[i]? = some x) : m[i]? = some x:=by
  obtain ⟨r,rfl⟩:=h
  rw [List.getElem?_append_left (List.getElem?_eq_some_iff.1 hx).1]
  exact hx
theorem ByAt.cells {w : World} {b : Nat} {l : List S40} (h : ByAt w b l) (i : Nat) (hi : i < l.length) : w.cell? ⟨b,i * 2,none⟩ = some (.int .i64 l[i].f0) ∧ w.cell? ⟨b,i * 2 + 1,none⟩ = some (.int .i64 l[i].f1):=by
  obtain ⟨cur,hc,hp⟩:=h
  obtain ⟨h0,h1⟩:=flatM_get l i hi
  have e0:=prefix_get hp h0
  have e1:=prefix_get hp h1
  rw [Array.getElem?_toList] at e0 e1
  exact ⟨(blk_cell hc _).trans e0,(blk_cell hc _).trans e1⟩
theorem ByAt.frozen {w : World} {b : Nat} {l : List S40} (h : ByAt w b l) (i : Nat) : w.frozen? ⟨b,i,none⟩ = false:=by
  obtain ⟨cur,hc,hp⟩:=h
  exact blk_frozen hc i
theorem ByAt.put {w : World} {b : Nat} {l : List S40} (h : ByAt w b l) (i : Nat) (hi : i < l.length) (m : S40) : ByAt ((w.setCell ⟨b,i * 2,none⟩ (.int .i64 m.f0)).setCell ⟨b,i * 2 + 1,none⟩ (.int .i64 m.f1)) b (l.set i m):=by
  obtain ⟨cur,hc,hp⟩:=h
  refine ⟨_,blk_put (blk_put hc (i * 2) _ rfl) (i * 2 + 1) _ rfl,?_⟩
  obtain ⟨r,hr⟩:=hp
  have hl:=flatM_length l
  refine ⟨r,?_⟩
  rw [Array.toList_setIfInBounds,Array.toList_setIfInBounds,← hr,List.set_append_left _ _ (by omega),List.set_append_left _ _ (by rw [List.length_set];omega),flatM_set l i m hi]
theorem ByAt.keep {w W : World} {b : Nat} {l : List S40} (h : ByAt w b l) (hb : W.heap[b]? = w.heap[b]?) : ByAt W b l:=by
  obtain ⟨cur,hc,hp⟩:=h
  exact ⟨cur,hb.trans hc,hp⟩
theorem ByAt.lt {w : World} {b : Nat} {l : List S40} (h : ByAt w b l) : b < w.heap.size:=by
  obtain ⟨cur,hc,hp⟩:=h
  exact (Array.getElem?_eq_some_iff.1 hc).1
def KB (w W : World) (b : Nat) : Prop:=w.heap.size ≤ W.heap.size ∧ ∀ k,k < w.heap.size → k ≠ b → W.heap[k]? = w.heap[k]?
theorem KB.refl (w : World) (b : Nat) : KB w w b:=⟨Nat.le_refl _,fun _ _ _ => rfl⟩
theorem KB.trans {w W V : World} {b : Nat} (h : KB w W b) (k : KB W V b) : KB w V b:=⟨Nat.le_trans h.1 k.1,fun i hi hb => (k.2 i (Nat.lt_of_lt_of_le hi h.1) hb).trans (h.2 i hi hb)⟩
theorem KB.of_below {w W V : World} {b : Nat} (h : KB w W b) (k : Below W.heap.size W V) : KB w V b:=h.trans ⟨k.size,fun i hi _ => k.block i hi⟩
theorem KB.alloc {w W : World} {b : Nat} (h : KB w W b) (o : Obj) : KB w (W.alloc o) b:=h.of_below (below_alloc (Below.refl _ _) o)
theorem KB.drew {w W : World} {b : Nat} (h : KB w W b) : KB w W.drew b:=h.of_below (below_drew (Below.refl _ _))
theorem KB.set {w W : World} {b : Nat} (h : KB w W b) (j : Nat) (u : Value) : KB w (W.setCell ⟨b,j,none⟩ u) b:=⟨by rw [World.size_setCell];exact h.1,fun i hi hb => (Below.heap_setCell W ⟨b,j,none⟩ u i hb).trans (h.2 i hi hb)⟩
structure LK (w : World) (g b : Nat) (c : S65) (a : CA) (by_ : List S40) : Prop where
  blk : w.heap[g]? = some (.cells (cellsC c a ++ #[.slice (some ⟨b,0,none⟩) by_.length by_.length]) 150 (0,0))
  row : ByAt w b by_
theorem LK.ne {w : World} {g b : Nat} {c : S65} {a : CA} {by_ : List S40} (h : LK w g b c a by_) : g ≠ b:=by
  obtain ⟨h1,cur,h2,_⟩:=h
  rintro rfl
  rw [h1] at h2
  injection h2 with h2
  injection h2 with _ h2
  exact absurd h2 (by decide)
theorem LK.below {w W : World} {g b : Nat} {c : S65} {a : CA} {by_ : List S40} (h : LK w g b c a by_) (hb : Below w.heap.size w W) : LK W g b c a by_ :=
  ⟨(hb.block g (Array.getElem?_eq_some_iff.1 h.blk).1).trans h.blk,h.row.keep (hb.block b h.row.lt)⟩
theorem LK.cell {w : World} {g b : Nat} {c : S65} {a : CA} {by_ : List S40} (h : LK w g b c a by_) (i : Nat) : w.cell? ⟨g,i,none⟩ = (cellsC c a ++ #[.slice (some ⟨b,0,none⟩) by_.length by_.length])[i]?:=blk_cell h.blk i
end Go.Proofs.YtojepjkpnponoaaDoor.Asc
end
