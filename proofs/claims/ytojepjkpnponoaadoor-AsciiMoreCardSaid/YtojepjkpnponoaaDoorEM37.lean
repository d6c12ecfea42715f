import Derived.Test.YtojepjkpnponoaaDoorEATailW
import Derived.Lib.IndexLaws
import Derived.Laws.DeepStrings4
import Derived.Test.YtojepjkpnponoaaDoorEM36
section
namespace Go.Proofs.YtojepjkpnponoaaDoor.Asc
open Go Go.RowKit Go.Proofs.YtojepjkpnponoaaDoorW.PrintWords Go.Proofs.YtojepjkpnponoaaDoorW.PrintLast Go.Proofs.YtojepjkpnponoaaDoorW.PrintMore
set_option linter.unusedVariables false
set_option linter.unusedSimpArgs false
def notedL (s : ByteArray) : Nat → Nat → Bool
  | 0,_ => false
  | k + 1,p => match lineF s p with
    | none => false
    | some (l,q) => if l = cB then true else notedL s k q
theorem lineF_at {s : ByteArray} {f i : Nat} (hf : f ≤ i) (h10 : s.data.toList[i]? = some 10) (hno : ∀ j,f ≤ j → j < i → s.data.toList[j]? ≠ some 10) : lineF s f = some (s.extract f i,i + 1):=by
  have hge:=Lib.indexByte_ge (s.extract f s.size).data.toList 10
  have hget : ∀ j,(s.extract f s.size).data.toList[j]? = s.data.toList[f + j]?:=fun j => by
    rw [Stim.extract_list,List.take_of_length_le (by rw [List.length_drop,data_length];omega),List.getElem?_drop]
  unfold lineF
  by_cases hneg : Lib.indexByte (s.extract f s.size).data.toList 10 < 0
  · have h:=Lib.indexByte_none (show Lib.indexByte (s.extract f s.size).data.toList 10 = -1 by omega) (i - f)
    rw [hget,show f + (i - f) = i by omega] at h
    exact absurd h10 h
  · rw [if_neg hneg]
    obtain ⟨o,ho⟩ : ∃ o : Nat,Lib.indexByte (s.extract f s.size).data.toList 10 = o:=⟨_,(Int.toNat_of_nonneg (by omega)).symm⟩
    obtain ⟨h1,h2⟩:=Lib.indexByte_some ho
    rw [hget] at h1
    have ho2 : f + o = i:=by
      rcases Nat.lt_trichotomy (f + o) i with h|h|h
      · exact absurd h1 (hno _ (by omega) h)
      · exact h
      · have:=h2 (i - f) (by omega)
        rw [hget,show f + (i - f) = i by omega] at this
        exact absurd h10 this
    rw [ho,Int.toNat_natCast,ho2]
theorem lineF_non {s : ByteArray} {f : Nat} (hno : ∀ j,f ≤ j → s.data.toList[j]? ≠ some 10) : lineF s f = none:=by
  have hge:=Lib.indexByte_ge (s.extract f s.size).data.toList 10
  have hget : ∀ j,(s.extract f s.size).data.toList[j]? = s.data.toList[f + j]?:=fun j => by
    rw [Stim.extract_list,List.take_of_length_le (by rw [List.length_drop,data_length];omega),List.getElem?_drop]
  unfold lineF
  by_cases hneg : Lib.indexByte (s.extract f s.size).data.toList 10 < 0
  · rw [if_pos hneg]
  · obtain ⟨o,ho⟩ : ∃ o : Nat,Lib.indexByte (s.extract f s.size).data.toList 10 = o:=⟨_,(Int.toNat_of_nonneg (by omega)).symm⟩
    have h1:=(Lib.indexByte_some ho).1
    rw [hget] at h1
    exact absurd h1 (hno _ (by omega))
theorem lineF_fwd {s : ByteArray} {p : Nat} {l : ByteArray} {q : Nat} (h : lineF s p = some (l,q)) : p < q ∧ q ≤ s.size:=by
  unfold lineF at h
  split at h
  · cases h
  · rename_i h0
    have hl:=Stim.indexByte_lt (s.extract p s.size).data.toList 10
    have hd : (s.extract p s.size).data.toList.length ≤ s.size - p:=by
      rw [Stim.extract_list,List.length_take,List.length_drop,data_length]
      omega
    injection h with h
    injection h with h1 h2
    omega
theorem notedL_fuel (s : ByteArray) : ∀ (k k' p : Nat),s.size < p + k → s.size < p + k' → notedL s k p = notedL s k' p
  | 0,k',p,h,h' => by
    have hl : lineF s p = none:=by
      cases hq : lineF s p with
      | none => rfl
      | some y => have:=lineF_fwd (l:=y.1) (q:=y.2) hq;omega
    cases k' with
    | zero => rfl
    | succ k' => simp [notedL,hl]
  | k + 1,0,p,h,h' => by
    have hl : lineF s p = none:=by
      cases hq : lineF s p with
      | none => rfl
      | some y => have:=lineF_fwd (l:=y.1) (q:=y.2) hq;omega
    simp [notedL,hl]
  | k + 1,k' + 1,p,h,h' => by
    unfold notedL
    cases hq : lineF s p with
    | none => rfl
    | some y =>
      have:=lineF_fwd (l:=y.1) (q:=y.2) hq
      dsimp only
      split
      · rfl
      · exact notedL_fuel s k k' y.2 (by omega) (by omega)
def notedF (s : ByteArray) : Bool:=notedL s (s.size + 1) 0
set_option maxHeartbeats 2000000 in
set_option maxRecDepth 100000 in
theorem noted_calls {w : World} {s : ByteArray} (hs : s.size ≤ 140737488355328) : Calls Tryd.prog 31 #[.string s] w fun e w' => e = .returned (.bool (notedF s)) ∧ w' = w:=by
  obtain ⟨N,hN⟩ : ∃ N,notedF s = N:=⟨_,rfl⟩
  rw [hN]
  have HNN:=Aside0.mk hN
  have HS:=Aside0.mk hs
  clear hN hs
  go_enter Tryd.func31,Tryd.ntmps31
  go_wp2
  (try simp only [Act.put,List.setIfInBounds_toArray,List.set_cons_zero,List.set_cons_succ])
  go_loopg [3,4] (s.size + 1) (fun kq v3 v4 w' => ∃ f i : Nat,v3 = .int .i64 f ∧ v4 = .int .i64 i ∧ Aside0 (i + kq = s.size + 1) ∧ Aside0 (f ≤ i ∧ i ≤ s.size) ∧ Aside0 (∀ j,f ≤ j → j < i → s.data.toList[j]? ≠ some 10) ∧ Aside0 (notedL s (s.size + 1) f = N) ∧ w' = w)
  case atStart => exact ⟨0,0,rfl,rfl,⟨by omega⟩,⟨by omega⟩,⟨fun j h1 h2 => by omega⟩,⟨by rw [← HNN.out];rfl⟩,rfl⟩
  case round =>
    clear HNN
    obtain ⟨f,i,rfl,rfl,HK,HFI,HNO,HNL,rfl⟩:=hrel
    by_cases ck : i < s.size
    · obtain ⟨g1,rfl⟩ : ∃ g1,gk = g1 + 1:=by
        cases gk with
        | zero => have:=HK.out;omega
        | succ g1 => exact ⟨g1,rfl⟩
      have ckb : decide ((i : Int) < (s.size : Int)) = true:=decide_eq_true (by omega)
      have ci0 : (0 : Int) ≤ (i : Int):=by omega
      have ci1 : (i : Int) < (s.size : Int):=by omega
      have hg : s.data.toList[i]? = some (s[i]'ck):=by
        rw [List.getElem?_eq_getElem (by rw [data_length];exact ck)]
        rfl
      have HG:=Aside0.mk hg
      have hwi : IntKind.i64.wrap ((i : Int) + 1) = ((i + 1 : Nat) : Int):=by have:=HS.out;rw [IntKind.wrap_i64];omega
      clear hg
      have cfi : f ≤ i:=HFI.out.1
      by_cases h10 : (s[i]'ck).toNat = 10
      · have hLF:=Aside0.mk (lineF_at HFI.out.1 (HG.out.trans (congrArg some (UInt8.toNat_inj.1 (by rw [h10];rfl)))) HNO.out)
        by_cases hc : s.extract f i = cB
        · have hcb : ((s.extract f i).toList == ([99] : List UInt8)) = true:=by rw [hc,Lib.toList_data];rfl
          have HC:=Aside0.mk hc
          clear hc
          go_wp2
          go_ret
          refine ⟨?_,rfl⟩
          rw [← HNL.out]
          simp [notedL,hLF.out,HC.out]
        · have hcb : ((s.extract f i).toList == ([99] : List UInt8)) = false:=by
            refine beq_eq_false_iff_ne.2 (fun e => hc ?_)
            rw [Lib.toList_data] at e
            rw [← Stim.bytesA_data (s.extract f i),e]
            rfl
          have HN2:=Aside0.mk (show notedL s (s.size + 1) (i + 1) = N by
            rw [← HNL.out]
            conv => rhs;unfold notedL
            rw [hLF.out]
            dsimp only
            rw [if_neg hc]
            exact notedL_fuel s _ _ _ (by omega) (by omega))
          clear hc
          go_wp2
          go_roundg g1
          case measure => omega
          case rel => exact ⟨i + 1,i + 1,by push_cast;rfl,by push_cast;rfl,⟨by have:=HK.out;omega⟩,⟨by omega⟩,⟨fun j h1 h2 => by omega⟩,HN2,rfl⟩
      · have h10b : ((((s[i]'ck).toNat : Nat) : Int) == 10) = false:=beq_eq_false_iff_ne.2 (by omega)
        have HNO2:=Aside0.mk (show ∀ j,f ≤ j → j < i + 1 → s.data.toList[j]? ≠ some 10 from fun j h1 h2 h3 => by
          by_cases e : j = i
          · subst e
            rw [HG.out] at h3
            injection h3 with h3
            exact h10 (by rw [h3];rfl)
          · exact HNO.out j h1 (by omega) h3)
        go_wp2
        go_roundg g1
        case measure => omega
        case rel => exact ⟨f,i + 1,rfl,by push_cast;rfl,⟨by have:=HK.out;omega⟩,⟨by omega⟩,HNO2,HNL,rfl⟩
    · have ckb : decide ((i : Int) < (s.size : Int)) = false:=decide_eq_false (by omega)
      go_wp2
      go_ret
      have hi : i = s.size:=by have:=HFI.out;omega
      subst hi
      refine ⟨?_,rfl⟩
      rw [← HNL.out]
      have hl : lineF s f = none:=lineF_non (fun j h1 h2 => by
        have h3:=(List.getElem?_eq_some_iff.1 h2).1
        rw [data_length] at h3
        exact HNO.out j h1 h3 h2)
      simp [notedL,hl]
end Go.Proofs.YtojepjkpnponoaaDoor.Asc
end
section
namespace Go.Proofs.YtojepjkpnponoaaDoor.Asc
open Go Go.RowKit Go.Proofs.YtojepjkpnponoaaDoorW.PrintWords
set_option linter.unusedVariables false
set_option linter.unusedSimpArgs false
theorem lineF_spec {s : ByteArray} {p : Nat} {l : ByteArray} {q : Nat} (h : lineF s p = some (l,q)) : ∃ i,p ≤ i ∧ q = i + 1 ∧ l = s.extract p i ∧ s.data.toList[i]? = some 10 ∧ ∀ j,p ≤ j → j < i → s.data.toList[j]? ≠ some 10:=by
  have hget : ∀ j,(s.extract p s.size).data.toList[j]? = s.data.toList[p + j]?:=fun j => by
    rw [Stim.extract_list,List.take_of_length_le (by rw [List.length_drop,data_length];omega),List.getElem?_drop]
  unfold lineF at h
  split at h
  · cases h
  · rename_i h0
    obtain ⟨o,ho⟩ : ∃ o : Nat,Lib.indexByte (s.extract p s.size).data.toList 10 = o:=⟨_,(Int.toNat_of_nonneg (by omega)).symm⟩
    obtain ⟨h1,h2⟩:=Lib.indexByte_some ho
    rw [ho,Int.toNat_natCast] at h
    injection h with h
    injection h with h3 h4
    refine ⟨p + o,by omega,h4.symm,h3.symm,by rw [← hget];exact h1,fun j a b c => ?_⟩
    have:=h2 (j - p) (by omega)
    rw [hget,show p + (j - p) = j by omega] at this
    exact this c
def App (s t : ByteArray) (u : List UInt8) : Prop:=t.data.toList = s.data.toList ++ u
theorem App.size {s t : ByteArray} {u : List UInt8} (h : App s t u) : t.size = s.size + u.length:=by
  rw [← data_length t,← data_length s,h,List.length_append]
theorem App.get {s t : ByteArray} {u : List UInt8} (h : App s t u) {j : Nat} (hj : j < s.size) : t.data.toList[j]? = s.data.toList[j]?:=by
  rw [h,List.getElem?_append_left (by rw [data_length];exact hj)]
theorem App.extract {s t : ByteArray} {u : List UInt8} (h : App s t u) {a b : Nat} (hb : b ≤ s.size) : t.extract a b = s.extract a b:=by
  rw [← Stim.bytesA_data (t.extract a b),← Stim.bytesA_data (s.extract a b),Stim.extract_list,Stim.extract_list]
  congr 1
  apply List.ext_getElem?
  intro j
  rw [List.getElem?_take,List.getElem?_take]
  split
  · rw [List.getElem?_drop,List.getElem?_drop,h.get (by omega)]
  · rfl
theorem line_app {s t : ByteArray} {u : List UInt8} (ht : App s t u) {p : Nat} {l : ByteArray} {q : Nat} (h : lineF s p = some (l,q)) : lineF t p = some (l,q):=by
  obtain ⟨i,h1,rfl,rfl,h2,h3⟩:=lineF_spec h
  have hi:=(List.getElem?_eq_some_iff.1 h2).1
  rw [data_length] at hi
  rw [lineF_at h1 (by rw [ht.get hi];exact h2) (fun j a b => by rw [ht.get (by omega)];exact h3 j a b),ht.extract (by omega)]
theorem row_app {s t : ByteArray} {u : List UInt8} (ht : App s t u) {p a b : Nat} {x : List Int} {q : Nat} (h : rowF s p a b = some (x,q)) : rowF t p a b = some (x,q):=by
  unfold rowF at h ⊢
  obtain ⟨y,hy,h⟩:=Option.bind_eq_some_iff.1 h
  rw [line_app ht (l:=y.1) (q:=y.2) hy]
  exact h
inductive Run (s : ByteArray) : Nat → Nat → Prop
  | refl (p : Nat) : Run s p p
  | step {p q r a b : Nat} {x : List Int} : rowF s p a b = some (x,q) → Run s q r → Run s p r
theorem Run.trans {s : ByteArray} {p q r : Nat} (h : Run s p q) (h2 : Run s q r) : Run s p r:=by
  induction h with
  | refl p => exact h2
  | step h _ ih => exact Run.step h (ih h2)
def Ra {α : Type} (s : ByteArray) (p : Nat) (r r' : Except Nat (α × Nat)) : Prop:=∀ l q,r = .ok (l,q) → r' = .ok (l,q) ∧ Run s p q
theorem listF_app {s t : ByteArray} {u : List UInt8} (ht : App s t u) : ∀ (n p : Nat),Ra s p (listF s n p) (listF t n p)
  | 0,p,l,q,h => by
    injection h with h
    injection h with h1 h2
    subst h1
    subst h2
    exact ⟨rfl,Run.refl _⟩
  | n + 1,p,l,q,h => by
    unfold listF at h ⊢
    cases hr : rowF s p 1 1 with
    | none => rw [hr] at h;cases h
    | some y =>
      rw [hr] at h
      rw [row_app ht (x:=y.1) (q:=y.2) hr]
      dsimp only at h ⊢
      cases hl : listF s n y.2 with
      | error e => rw [hl] at h;cases h
      | ok z =>
        obtain ⟨h1,h2⟩:=listF_app ht n y.2 z.1 z.2 hl
        rw [hl] at h
        rw [h1]
        dsimp only at h ⊢
        injection h with h
        injection h with e1 e2
        subst e1
        subst e2
        exact ⟨rfl,Run.step (x:=y.1) (q:=y.2) hr h2⟩
theorem latchesF_app {s t : ByteArray} {u : List UInt8} (ht : App s t u) : ∀ (n p : Nat),Ra s p (latchesF s n p) (latchesF t n p)
  | 0,p,l,q,h => by
    injection h with h
    injection h with h1 h2
    subst h1
    subst h2
    exact ⟨rfl,Run.refl _⟩
  | n + 1,p,l,q,h => by
    unfold latchesF at h ⊢
    cases hr : rowF s p 2 3 with
    | none => rw [hr] at h;cases h
    | some y =>
      rw [hr] at h
      rw [row_app ht (x:=y.1) (q:=y.2) hr]
      dsimp only at h ⊢
      cases hl : latchesF s n y.2 with
      | error e => rw [hl] at h;cases h
      | ok z =>
        obtain ⟨h1,h2⟩:=latchesF_app ht n y.2 z.1 z.2 hl
        rw [hl] at h
        rw [h1]
        dsimp only at h ⊢
        injection h with h
        injection h with e1 e2
        subst e1
        subst e2
        exact ⟨rfl,Run.step (x:=y.1) (q:=y.2) hr h2⟩
theorem andsF_app {s t : ByteArray} {u : List UInt8} (ht : App s t u) : ∀ (n p : Nat),Ra s p (andsF s n p) (andsF t n p)
  | 0,p,l,q,h => by
    injection h with h
    injection h with h1 h2
    subst h1
    subst h2
    exact ⟨rfl,Run.refl _⟩
  | n + 1,p,l,q,h => by
    unfold andsF at h ⊢
    cases hr : rowF s p 3 3 with
    | none => rw [hr] at h;cases h
    | some y =>
      rw [hr] at h
      rw [row_app ht (x:=y.1) (q:=y.2) hr]
      dsimp only at h ⊢
      cases hl : andsF s n y.2 with
      | error e => rw [hl] at h;cases h
      | ok z =>
        obtain ⟨h1,h2⟩:=andsF_app ht n y.2 z.1 z.2 hl
        rw [hl] at h
        rw [h1]
        dsimp only at h ⊢
        injection h with h
        injection h with e1 e2
        subst e1
        subst e2
        exact ⟨rfl,Run.step (x:=y.1) (q:=y.2) hr h2⟩
theorem sizesF_app {s t : ByteArray} {u : List UInt8} (ht : App s t u) : ∀ (n p : Nat),Ra s p (sizesF' s n p) (sizesF' t n p)
  | 0,p,l,q,h => by
    injection h with h
    injection h with h1 h2
    subst h1
    subst h2
    exact ⟨rfl,Run.refl _⟩
  | n + 1,p,l,q,h => by
    unfold sizesF' at h ⊢
    cases hr : rowF s p 1 1 with
    | none => rw [hr] at h;cases h
    | some y =>
      rw [hr] at h
      rw [row_app ht (x:=y.1) (q:=y.2) hr]
      dsimp only at h ⊢
      by_cases hb : 16384 < y.1.getD 0 0
      · rw [if_pos hb] at h
        cases h
      rw [if_neg hb] at h ⊢
      cases hl : sizesF' s n y.2 with
      | error e => rw [hl] at h;cases h
      | ok z =>
        obtain ⟨h1,h2⟩:=sizesF_app ht n y.2 z.1 z.2 hl
        rw [hl] at h
        rw [h1]
        dsimp only at h ⊢
        injection h with h
        injection h with e1 e2
        subst e1
        subst e2
        exact ⟨rfl,Run.step (x:=y.1) (q:=y.2) hr h2⟩
theorem justF_app {s t : ByteArray} {u : List UInt8} (ht : App s t u) : ∀ (ks : List Int) (p : Nat),Ra s p (justF s ks p) (justF t ks p)
  | [],p,l,q,h => by
    injection h with h
    injection h with h1 h2
    subst h1
    subst h2
    exact ⟨rfl,Run.refl _⟩
  | k :: ks,p,l,q,h => by
    unfold justF at h ⊢
    cases hr : listF s k.toNat p with
    | error e => rw [hr] at h;cases h
    | ok y =>
      obtain ⟨g1,g2⟩:=listF_app ht k.toNat p y.1 y.2 hr
      rw [hr] at h
      rw [g1]
      dsimp only at h ⊢
      cases hl : justF s ks y.2 with
      | error e => rw [hl] at h;cases h
      | ok z =>
        obtain ⟨h1,h2⟩:=justF_app ht ks y.2 z.1 z.2 hl
        rw [hl] at h
        rw [h1]
        dsimp only at h ⊢
        injection h with h
        injection h with e1 e2
        subst e1
        subst e2
        exact ⟨rfl,g2.trans h2⟩
theorem bodyN_app {s t : ByteArray} {u : List UInt8} (ht : App s t u) (m0 m1 m2 m3 m4 m5 m6 m7 m8 p : Nat) : Ra s p (bodyN s m0 m1 m2 m3 m4 m5 m6 m7 m8 p) (bodyN t m0 m1 m2 m3 m4 m5 m6 m7 m8 p):=by
  intro c q h
  unfold bodyN at h ⊢
  cases r1 : listF s m1 p with
  | error e => rw [r1] at h;cases h
  | ok y1 =>
  obtain ⟨x1,p1⟩:=y1
  obtain ⟨a1,b1⟩:=listF_app ht m1 p x1 p1 r1
  rw [r1] at h
  rw [a1]
  replace h : bL s m0 m3 m4 m5 m6 m7 m8 x1 (latchesF s m2 p1) = .ok (c,q):=h
  show bL t m0 m3 m4 m5 m6 m7 m8 x1 (latchesF t m2 p1) = .ok (c,q) ∧ _
  cases r2 : latchesF s m2 p1 with
  | error e => rw [r2] at h;cases h
  | ok y2 =>
  obtain ⟨x2,p2⟩:=y2
  obtain ⟨a2,b2⟩:=latchesF_app ht m2 p1 x2 p2 r2
  rw [r2] at h
  rw [a2]
  replace h : bO s m0 m4 m5 m6 m7 m8 x1 x2 (listF s m3 p2) = .ok (c,q):=h
  show bO t m0 m4 m5 m6 m7 m8 x1 x2 (listF t m3 p2) = .ok (c,q) ∧ _
  cases r3 : listF s m3 p2 with
  | error e => rw [r3] at h;cases h
  | ok y3 =>
  obtain ⟨x3,p3⟩:=y3
  obtain ⟨a3,b3⟩:=listF_app ht m3 p2 x3 p3 r3
  rw [r3] at h
  rw [a3]
  replace h : bB s m0 m4 m6 m7 m8 x1 x2 x3 (listF s m5 p3) = .ok (c,q):=h
  show bB t m0 m4 m6 m7 m8 x1 x2 x3 (listF t m5 p3) = .ok (c,q) ∧ _
  cases r5 : listF s m5 p3 with
  | error e => rw [r5] at h;cases h
  | ok y5 =>
  obtain ⟨x5,p5⟩:=y5
  obtain ⟨a5,b5⟩:=listF_app ht m5 p3 x5 p5 r5
  rw [r5] at h
  rw [a5]
  replace h : bC s m0 m4 m7 m8 x1 x2 x3 x5 (listF s m6 p5) = .ok (c,q):=h
  show bC t m0 m4 m7 m8 x1 x2 x3 x5 (listF t m6 p5) = .ok (c,q) ∧ _
  cases r6 : listF s m6 p5 with
  | error e => rw [r6] at h;cases h
  | ok y6 =>
  obtain ⟨x6,p6⟩:=y6
  obtain ⟨a6,b6⟩:=listF_app ht m6 p5 x6 p6 r6
  rw [r6] at h
  rw [a6]
  replace h : bZ s m0 m4 m8 x1 x2 x3 x5 x6 (sizesF' s m7 p6) = .ok (c,q):=h
  show bZ t m0 m4 m8 x1 x2 x3 x5 x6 (sizesF' t m7 p6) = .ok (c,q) ∧ _
  cases r7 : sizesF' s m7 p6 with
  | error e => rw [r7] at h;cases h
  | ok y7 =>
  obtain ⟨x7,p7⟩:=y7
  obtain ⟨a7,b7⟩:=sizesF_app ht m7 p6 x7 p7 r7
  rw [r7] at h
  rw [a7]
  replace h : bJ s m0 m4 m8 x1 x2 x3 x5 x6 (justF s x7 p7) = .ok (c,q):=h
  show bJ t m0 m4 m8 x1 x2 x3 x5 x6 (justF t x7 p7) = .ok (c,q) ∧ _
  cases rj : justF s x7 p7 with
  | error e => rw [rj] at h;cases h
  | ok yj =>
  obtain ⟨xj,pj⟩:=yj
  obtain ⟨aj,bj⟩:=justF_app ht x7 p7 xj pj rj
  rw [rj] at h
  rw [aj]
  replace h : bF s m0 m4 x1 x2 x3 x5 x6 xj (listF s m8 pj) = .ok (c,q):=h
  show bF t m0 m4 x1 x2 x3 x5 x6 xj (listF t m8 pj) = .ok (c,q) ∧ _
  cases r8 : listF s m8 pj with
  | error e => rw [r8] at h;cases h
  | ok y8 =>
  obtain ⟨x8,p8⟩:=y8
  obtain ⟨a8,b8⟩:=listF_app ht m8 pj x8 p8 r8
  rw [r8] at h
  rw [a8]
  replace h : bA m0 x1 x2 x3 x5 x6 xj x8 (andsF s m4 p8) = .ok (c,q):=h
  show bA m0 x1 x2 x3 x5 x6 xj x8 (andsF t m4 p8) = .ok (c,q) ∧ _
  cases r4 : andsF s m4 p8 with
  | error e => rw [r4] at h;cases h
  | ok y4 =>
  obtain ⟨x4,p4⟩:=y4
  obtain ⟨a4,b4⟩:=andsF_app ht m4 p8 x4 p4 r4
  rw [r4] at h
  rw [a4]
  injection h with h
  injection h with e1 e2
  subst e1
  subst e2
  exact ⟨rfl,b1.trans (b2.trans (b3.trans (b5.trans (b6.trans (b7.trans (bj.trans (b8.trans b4)))))))⟩
theorem index_unique {l : List UInt8} {c : UInt8} {i : Nat} (h : l[i]? = some c) (hno : ∀ j,j < i → l[j]? ≠ some c) : Lib.indexByte l c = (i : Int):=by
  have hge:=Lib.indexByte_ge l c
  by_cases hneg : Lib.indexByte l c < 0
  · exact absurd h (Lib.indexByte_none (show Lib.indexByte l c = -1 by omega) i)
  · obtain ⟨o,ho⟩ : ∃ o : Nat,Lib.indexByte l c = o:=⟨_,(Int.toNat_of_nonneg (by omega)).symm⟩
    obtain ⟨h1,h2⟩:=Lib.indexByte_some ho
    have : o = i:=by
      rcases Nat.lt_trichotomy o i with h3|h3|h3
      · exact absurd h1 (hno _ h3)
      · exact h3
      · exact absurd h (h2 _ h3)
    rw [ho,this]
theorem cutM_pos {l : ByteArray} {c : UInt8} {i : Nat} (h : Lib.indexByte l.data.toList c = i) : cutS l c = (⟨(l.data.toList.take i).toArray⟩,⟨(l.data.toList.drop (i + 1)).toArray⟩,true):=by
  unfold cutS Lib.cut
  rw [Lib.index_one,h,if_pos (by omega)]
  simp
theorem cutM_neg {l : ByteArray} {c : UInt8} (h : Lib.indexByte l.data.toList c < 0) : (cutS l c).2.2 = false:=by
  unfold cutS Lib.cut
  rw [Lib.index_one,if_neg (by omega)]
theorem cB_head (w : ByteArray) (k : List Int) (e : Int) : headOf cB true (cutS cB 32).1 (numsR (cutS cB 32).2.1) ≠ (w,k,e,0):=by
  have e1 : headOf cB true (cutS cB 32).1 (numsR (cutS cB 32).2.1) = headErr 40:=by kernel_rfl
  rw [e1]
  intro h
  injection h with _ h;injection h with _ h;injection h with _ h
  cases h
theorem headOf_end {l w word : ByteArray} {b : Bool} {n : List Int × Bool} {k : List Int} {e : Int} (h : headOf l b w n = (word,k,e,0)) : b = true ∧ e = (l.size : Int) + 1:=by
  have bad : ∀ c : Int,headErr c = (word,k,e,0) → c ≠ 0 → False:=fun c hc h0 => by
    injection hc with _ hc;injection hc with _ hc;injection hc with _ hc;exact h0 hc
  unfold headOf at h
  split at h
  · exact (bad _ h (by decide)).elim
  · rename_i hb
    refine ⟨by cases b with|true => rfl|false => exact absurd rfl hb,?_⟩
    repeat (split at h;exact (bad _ h (by decide)).elim)
    injection h with _ h
    injection h with _ h
    injection h with h _
    exact h.symm
theorem head_app {s t : ByteArray} {u : List UInt8} (ht : App s t u) (hz : t.size ≤ 262144) {word : ByteArray} {k : List Int} {e : Int} (h : headF s = (word,k,e,0)) :
    headF t = (word,k,e,0) ∧ ∃ l,lineF s 0 = some (l,e.toNat) ∧ l ≠ cB:=by
  have hs:=ht.size
  have hge:=Lib.indexByte_ge s.data.toList 10
  unfold headF at h ⊢
  rw [if_neg (by omega)] at h ⊢
  by_cases hneg : Lib.indexByte s.data.toList 10 < 0
  · have:=(headOf_end h).1
    rw [cutM_neg hneg] at this
    cases this
  · obtain ⟨i,hi⟩ : ∃ i : Nat,Lib.indexByte s.data.toList 10 = i:=⟨_,(Int.toNat_of_nonneg (by omega)).symm⟩
    obtain ⟨h10,hno⟩:=Lib.indexByte_some hi
    have hil:=(List.getElem?_eq_some_iff.1 h10).1
    rw [data_length] at hil
    have hit : Lib.indexByte t.data.toList 10 = (i : Int):=index_unique (by rw [ht.get hil];exact h10) (fun j hj => by rw [ht.get (by omega)];exact hno j hj)
    have htk : t.data.toList.take i = s.data.toList.take i:=by
      rw [ht,List.take_append_of_le_length (by rw [data_length];omega)]
    have hl:=cutM_pos hi
    have hl2:=cutM_pos hit
    rw [htk] at hl2
    rw [hl] at h
    rw [hl2]
    have el : (⟨(s.data.toList.take i).toArray⟩ : ByteArray) = s.extract 0 i:=by
      rw [← Stim.bytesA_data (s.extract 0 i),Stim.extract_list,List.drop_zero,Nat.sub_zero]
      rfl
    refine ⟨h,s.extract 0 i,?_,?_⟩
    · rw [lineF_at (Nat.zero_le _) h10 (fun j _ hj => hno j hj)]
      have he:=(headOf_end h).2
      dsimp only at he
      rw [el] at he
      rw [he,ByteArray.size_extract]
      congr 2
      omega
    · intro hc
      rw [el,hc] at h
      exact cB_head _ _ _ h
theorem nums_cB : numbersF cB = none:=by kernel_rfl
theorem run_noted {s : ByteArray} {p q : Nat} (h : Run s p q) : notedL s (s.size + 1) p = notedL s (s.size + 1) q:=by
  induction h with
  | refl p => rfl
  | step h _ ih =>
    rename_i p q r a b x
    rw [← ih]
    unfold rowF at h
    obtain ⟨y,hy,h⟩:=Option.bind_eq_some_iff.1 h
    obtain ⟨ns,hn,h⟩:=Option.bind_eq_some_iff.1 h
    split at h
    · cases h
    · injection h with h
      injection h with h1 h2
      subst h2
      have hf:=lineF_fwd (l:=y.1) (q:=y.2) hy
      have hc : y.1 ≠ cB:=fun e => by rw [e,nums_cB] at hn;cases hn
      conv => lhs;unfold notedL
      rw [hy]
      dsimp only
      rw [if_neg hc]
      exact notedL_fuel s _ _ _ (by omega) (by omega)
def tailNo (s : ByteArray) : Nat → Nat → Bool → Bool
  | 0,_,n => n
  | k + 1,p,n => if s.size ≤ p then n else match lineF s p with
    | none => n
    | some (l,q) => if n = true then tailNo s k q true else if l = cB then tailNo s k q true else tailNo s k q false
theorem tailNo_true (s : ByteArray) : ∀ (k p : Nat),tailNo s k p true = true
  | 0,p => rfl
  | k + 1,p => by
    unfold tailNo
    split
    · rfl
    · cases hq : lineF s p with
      | none => rfl
      | some y => dsimp only;rw [if_pos rfl];exact tailNo_true s k y.2
theorem tailNo_noted (s : ByteArray) : ∀ (k p : Nat) (z : List S59 × List ByteArray),tailGo s k p false = .ok z → tailNo s k p false = notedL s k p
  | 0,p,z,h => rfl
  | k + 1,p,z,h => by
    unfold tailGo at h
    unfold tailNo notedL
    by_cases hp : s.size ≤ p
    · rw [if_pos hp]
      have hl : lineF s p = none:=by
        cases hq : lineF s p with
        | none => rfl
        | some y => have:=lineF_fwd (l:=y.1) (q:=y.2) hq;omega
      rw [hl]
    · rw [if_neg hp] at h ⊢
      cases hq : lineF s p with
      | none => rfl
      | some y =>
        rw [hq] at h
        dsimp only at h ⊢
        rw [if_neg Bool.noConfusion] at h ⊢
        by_cases hc : y.1 = cB
        · rw [if_pos hc,if_pos hc]
          exact tailNo_true s k y.2
        · rw [if_neg hc] at h
          rw [if_neg hc,if_neg hc]
          split at h
          · cases h
          · cases hg : tailGo s k y.2 false with
            | error e => rw [hg] at h;cases h
            | ok z' => exact tailNo_noted s k y.2 z' hg
theorem tailGo_fuel (s : ByteArray) : ∀ (k k' p : Nat) (n : Bool),p ≤ s.size → s.size < p + k → s.size < p + k' → tailGo s k p n = tailGo s k' p n
  | 0,k',p,n,hp,h,h' => by omega
  | k + 1,0,p,n,hp,h,h' => by omega
  | k + 1,k' + 1,p,n,hp,h,h' => by
    unfold tailGo
    split
    · rfl
    · cases hq : lineF s p with
      | none => rfl
      | some y =>
        have:=lineF_fwd (l:=y.1) (q:=y.2) hq
        dsimp only
        rw [tailGo_fuel s k k' y.2 true (by omega) (by omega) (by omega),tailGo_fuel s k k' y.2 false (by omega) (by omega) (by omega)]
end Go.Proofs.YtojepjkpnponoaaDoor.Asc
end
