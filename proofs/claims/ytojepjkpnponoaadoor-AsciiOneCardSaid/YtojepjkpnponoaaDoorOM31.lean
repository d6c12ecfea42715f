import Derived.Test.YtojepjkpnponoaaDoorOM30
import Derived.Lib.IndexLaws
section
namespace Go.Proofs.YtojepjkpnponoaaDoor.Asc
open Go Go.RowKit Go.Proofs.YtojepjkpnponoaaDoorW.PrintWords
set_option linter.unusedVariables false
set_option linter.unusedSimpArgs false
theorem lineR_place {s : ByteArray} {p : Nat} {l : ByteArray} {q : Nat} (h : lineF s p = some (l,q)) : q ≤ s.size:=by
  unfold lineF at h
  split at h
  · cases h
  · have hl:=Stim.indexByte_lt (s.extract p s.size).data.toList 10
    have hd : (s.extract p s.size).data.toList.length ≤ s.size - p:=by
      rw [Stim.extract_list,List.length_take,List.length_drop,data_length]
      omega
    injection h with h
    injection h with h1 h2
    omega
theorem rowR_place {s : ByteArray} {p a b : Nat} {x : List Int} {q : Nat} (h : rowF s p a b = some (x,q)) : q ≤ s.size:=by
  unfold rowF at h
  obtain ⟨y,hy,h⟩:=Option.bind_eq_some_iff.1 h
  obtain ⟨ns,hn,h⟩:=Option.bind_eq_some_iff.1 h
  split at h
  · cases h
  · injection h with h
    injection h with h1 h2
    subst h2
    exact lineR_place (l:=y.1) (q:=y.2) hy
def Rd {α : Type} (s : ByteArray) (m : Nat) : Except Nat (List α × Nat) → Prop
  | .error e => e ≤ s.size
  | .ok (l,q) => q ≤ s.size ∧ l.length = m
theorem listF_rd (s : ByteArray) : ∀ (n p : Nat),p ≤ s.size → Rd s n (listF s n p)
  | 0,p,h => ⟨h,rfl⟩
  | n + 1,p,h => by
    unfold listF
    cases hr : rowF s p 1 1 with
    | none => exact h
    | some y =>
      have ih:=listF_rd s n y.2 (rowR_place (x:=y.1) (q:=y.2) hr)
      dsimp only
      cases hl : listF s n y.2 with
      | error e => rw [hl] at ih;exact ih
      | ok z => rw [hl] at ih;exact ⟨ih.1,by simp [ih.2]⟩
theorem latchesF_rd (s : ByteArray) : ∀ (n p : Nat),p ≤ s.size → Rd s n (latchesF s n p)
  | 0,p,h => ⟨h,rfl⟩
  | n + 1,p,h => by
    unfold latchesF
    cases hr : rowF s p 2 3 with
    | none => exact h
    | some y =>
      have ih:=latchesF_rd s n y.2 (rowR_place (x:=y.1) (q:=y.2) hr)
      dsimp only
      cases hl : latchesF s n y.2 with
      | error e => rw [hl] at ih;exact ih
      | ok z => rw [hl] at ih;exact ⟨ih.1,by simp [ih.2]⟩
theorem andsF_rd (s : ByteArray) : ∀ (n p : Nat),p ≤ s.size → Rd s n (andsF s n p)
  | 0,p,h => ⟨h,rfl⟩
  | n + 1,p,h => by
    unfold andsF
    cases hr : rowF s p 3 3 with
    | none => exact h
    | some y =>
      have ih:=andsF_rd s n y.2 (rowR_place (x:=y.1) (q:=y.2) hr)
      dsimp only
      cases hl : andsF s n y.2 with
      | error e => rw [hl] at ih;exact ih
      | ok z => rw [hl] at ih;exact ⟨ih.1,by simp [ih.2]⟩
theorem sizesF_rd (s : ByteArray) : ∀ (n p : Nat),p ≤ s.size → Rd s n (sizesF' s n p)
  | 0,p,h => ⟨h,rfl⟩
  | n + 1,p,h => by
    unfold sizesF'
    cases hr : rowF s p 1 1 with
    | none => exact h
    | some y =>
      have ih:=sizesF_rd s n y.2 (rowR_place (x:=y.1) (q:=y.2) hr)
      dsimp only
      split
      · exact h
      · cases hl : sizesF' s n y.2 with
        | error e => rw [hl] at ih;exact ih
        | ok z => rw [hl] at ih;exact ⟨ih.1,by simp [ih.2]⟩
theorem justF_rd (s : ByteArray) : ∀ (ks : List Int) (p : Nat),p ≤ s.size → Rd s ks.length (justF s ks p)
  | [],p,h => ⟨h,rfl⟩
  | k :: ks,p,h => by
    unfold justF
    have h1:=listF_rd s k.toNat p h
    cases hr : listF s k.toNat p with
    | error e => rw [hr] at h1;exact h1
    | ok y =>
      rw [hr] at h1
      have ih:=justF_rd s ks y.2 h1.1
      dsimp only
      cases hl : justF s ks y.2 with
      | error e => rw [hl] at ih;exact ih
      | ok z => rw [hl] at ih;exact ⟨ih.1,by simp [ih.2]⟩
def BodyR (s : ByteArray) (m0 m1 m2 m3 m4 m5 m6 m7 m8 : Nat) : Except Nat (S65 × Nat) → Prop
  | .error e => e ≤ s.size
  | .ok (c,q) => q ≤ s.size ∧ c.f0 = m0 ∧ c.f1.length = m1 ∧ c.f2.length = m2 ∧ c.f3.length = m3 ∧ c.f4.length = m5 ∧ c.f5.length = m6 ∧ c.f6.length = m7 ∧ c.f7.length = m8 ∧ c.f8.length = m4
theorem bodyN_rd (s : ByteArray) (m0 m1 m2 m3 m4 m5 m6 m7 m8 p : Nat) (h : p ≤ s.size) : BodyR s m0 m1 m2 m3 m4 m5 m6 m7 m8 (bodyN s m0 m1 m2 m3 m4 m5 m6 m7 m8 p):=by
  unfold bodyN
  have h1:=listF_rd s m1 p h
  cases r1 : listF s m1 p with
  | error e => rw [r1] at h1;exact h1
  | ok y1 =>
  rw [r1] at h1
  obtain ⟨x1,p⟩:=y1
  show BodyR s m0 m1 m2 m3 m4 m5 m6 m7 m8 (bL s m0 m3 m4 m5 m6 m7 m8 x1 (latchesF s m2 p))
  have h2:=latchesF_rd s m2 p h1.1
  cases r2 : latchesF s m2 p with
  | error e => rw [r2] at h2;exact h2
  | ok y2 =>
  rw [r2] at h2
  obtain ⟨x2,p⟩:=y2
  show BodyR s m0 m1 m2 m3 m4 m5 m6 m7 m8 (bO s m0 m4 m5 m6 m7 m8 x1 x2 (listF s m3 p))
  have h3:=listF_rd s m3 p h2.1
  cases r3 : listF s m3 p with
  | error e => rw [r3] at h3;exact h3
  | ok y3 =>
  rw [r3] at h3
  obtain ⟨x3,p⟩:=y3
  show BodyR s m0 m1 m2 m3 m4 m5 m6 m7 m8 (bB s m0 m4 m6 m7 m8 x1 x2 x3 (listF s m5 p))
  have h5:=listF_rd s m5 p h3.1
  cases r5 : listF s m5 p with
  | error e => rw [r5] at h5;exact h5
  | ok y5 =>
  rw [r5] at h5
  obtain ⟨x5,p⟩:=y5
  show BodyR s m0 m1 m2 m3 m4 m5 m6 m7 m8 (bC s m0 m4 m7 m8 x1 x2 x3 x5 (listF s m6 p))
  have h6:=listF_rd s m6 p h5.1
  cases r6 : listF s m6 p with
  | error e => rw [r6] at h6;exact h6
  | ok y6 =>
  rw [r6] at h6
  obtain ⟨x6,p⟩:=y6
  show BodyR s m0 m1 m2 m3 m4 m5 m6 m7 m8 (bZ s m0 m4 m8 x1 x2 x3 x5 x6 (sizesF' s m7 p))
  have h7:=sizesF_rd s m7 p h6.1
  cases r7 : sizesF' s m7 p with
  | error e => rw [r7] at h7;exact h7
  | ok y7 =>
  rw [r7] at h7
  obtain ⟨x7,p⟩:=y7
  show BodyR s m0 m1 m2 m3 m4 m5 m6 m7 m8 (bJ s m0 m4 m8 x1 x2 x3 x5 x6 (justF s x7 p))
  have hj:=justF_rd s x7 p h7.1
  cases rj : justF s x7 p with
  | error e => rw [rj] at hj;exact hj
  | ok yj =>
  rw [rj] at hj
  obtain ⟨xj,p⟩:=yj
  show BodyR s m0 m1 m2 m3 m4 m5 m6 m7 m8 (bF s m0 m4 x1 x2 x3 x5 x6 xj (listF s m8 p))
  have h8:=listF_rd s m8 p hj.1
  cases r8 : listF s m8 p with
  | error e => rw [r8] at h8;exact h8
  | ok y8 =>
  rw [r8] at h8
  obtain ⟨x8,p⟩:=y8
  show BodyR s m0 m1 m2 m3 m4 m5 m6 m7 m8 (bA m0 x1 x2 x3 x5 x6 xj x8 (andsF s m4 p))
  have h4:=andsF_rd s m4 p h8.1
  cases r4 : andsF s m4 p with
  | error e => rw [r4] at h4;exact h4
  | ok y4 =>
  rw [r4] at h4
  obtain ⟨x4,p⟩:=y4
  exact ⟨h4.1,rfl,h1.2,h2.2,h3.2,h5.2,h6.2,hj.2.trans h7.2,h8.2,h4.2⟩
theorem tailGo_place (s : ByteArray) : ∀ (m p : Nat) (n : Bool) (e : Nat),p ≤ s.size → tailGo s m p n = .error e → e ≤ s.size
  | 0,p,n,e,hp,h => by
    unfold tailGo at h
    injection h with h
    omega
  | m + 1,p,n,e,hp,h => by
    unfold tailGo at h
    split at h
    · cases h
    · split at h
      · injection h with h;omega
      · rename_i l q hq
        have hq:=lineR_place hq
        split at h
        · cases hr : tailGo s m q true with
          | error e' => rw [hr] at h;injection h with h;subst h;exact tailGo_place s m q true _ hq hr
          | ok z => rw [hr] at h;cases h
        · split at h
          · exact tailGo_place s m q true e hq h
          · split at h
            · injection h with h;omega
            · cases hr : tailGo s m q false with
              | error e' => rw [hr] at h;injection h with h;subst h;exact tailGo_place s m q false _ hq hr
              | ok z => rw [hr] at h;cases h
theorem tailF_place {s : ByteArray} {p : Nat} (hp : p ≤ s.size) : 0 ≤ (tailF s p).2.2.1 ∧ (tailF s p).2.2.1 ≤ s.size:=by
  unfold tailF
  split
  · exact ⟨Int.le_refl _,Int.natCast_nonneg _⟩
  · split
    · exact ⟨Int.le_refl _,Int.natCast_nonneg _⟩
    · cases hr : tailGo s (s.size + 1) ((p : Nat) : Int).toNat false with
      | error e =>
        have:=tailGo_place s _ _ _ e (by rw [Int.toNat_natCast];exact hp) hr
        exact ⟨Int.natCast_nonneg _,Int.ofNat_le.2 this⟩
      | ok z => exact ⟨Int.le_refl _,Int.natCast_nonneg _⟩
def RightR (s : ByteArray) (r : S65 × Int × Int) : Prop :=
  (r.2.2 ≠ 0 ∧ 0 ≤ r.2.1 ∧ r.2.1 ≤ s.size ∧ r.1.f8 = [] ∧ r.1.f0 = 0) ∨
  (r.2.1 = 0 ∧ r.2.2 = 0 ∧ (lookF r.1).2 = 0 ∧ (headF s).1 = aagB ∧ (headF s).2.2.2 = 0 ∧
    r.1.f0 = (headF s).2.1.getD 0 0 ∧ (r.1.f1.length : Int) = (headF s).2.1.getD 1 0 ∧ (r.1.f2.length : Int) = (headF s).2.1.getD 2 0 ∧ (r.1.f3.length : Int) = (headF s).2.1.getD 3 0 ∧ (r.1.f8.length : Int) = (headF s).2.1.getD 4 0 ∧
    (r.1.f4.length : Int) = (headF s).2.1.getD 5 0 ∧ (r.1.f5.length : Int) = (headF s).2.1.getD 6 0 ∧ (r.1.f6.length : Int) = (headF s).2.1.getD 7 0 ∧ (r.1.f7.length : Int) = (headF s).2.1.getD 8 0)
theorem right_law (s : ByteArray) : RightR s (readF s):=by
  unfold readF
  by_cases h1 : (headF s).2.2.2 ≠ 0
  · rw [if_pos h1]
    exact Or.inl ⟨h1,Int.le_refl _,Int.natCast_nonneg _,rfl,rfl⟩
  rw [if_neg h1]
  by_cases h2 : (headF s).1 ≠ aagB
  · rw [if_pos h2]
    exact Or.inl ⟨by decide,Int.le_refl _,Int.natCast_nonneg _,rfl,rfl⟩
  rw [if_neg h2]
  have h1 : (headF s).2.2.2 = 0:=by omega
  have h2 : (headF s).1 = aagB:=Decidable.not_not.1 h2
  have hk:=head_ok (s:=s) (word:=(headF s).1) (k:=(headF s).2.1) (e:=(headF s).2.2.1) (by rw [← h1])
  have hB:=bodyN_rd s ((headF s).2.1.getD 0 0).toNat ((headF s).2.1.getD 1 0).toNat ((headF s).2.1.getD 2 0).toNat ((headF s).2.1.getD 3 0).toNat ((headF s).2.1.getD 4 0).toNat ((headF s).2.1.getD 5 0).toNat ((headF s).2.1.getD 6 0).toNat ((headF s).2.1.getD 7 0).toNat ((headF s).2.1.getD 8 0).toNat (headF s).2.2.1.toNat (by have:=hk.place;omega)
  generalize bodyN s ((headF s).2.1.getD 0 0).toNat ((headF s).2.1.getD 1 0).toNat ((headF s).2.1.getD 2 0).toNat ((headF s).2.1.getD 3 0).toNat ((headF s).2.1.getD 4 0).toNat ((headF s).2.1.getD 5 0).toNat ((headF s).2.1.getD 6 0).toNat ((headF s).2.1.getD 7 0).toNat ((headF s).2.1.getD 8 0).toNat (headF s).2.2.1.toNat = B at hB ⊢
  cases B with
  | error e => exact Or.inl ⟨(by decide : (42 : Int) ≠ 0),Int.natCast_nonneg _,Int.ofNat_le.2 hB,rfl,rfl⟩
  | ok y =>
    obtain ⟨c,q⟩:=y
    obtain ⟨hq,e0,e1,e2,e3,e4,e5,e6,e7,e8⟩:=hB
    unfold readBody readEnd
    dsimp only
    have hp:=tailF_place hq
    by_cases h3 : (tailF s q).2.2.2 ≠ 0
    · rw [if_pos h3]
      exact Or.inl ⟨h3,hp.1,hp.2,rfl,rfl⟩
    rw [if_neg h3]
    by_cases h4 : (lookF { c with f9:=(tailF s q).1,f10:=(tailF s q).2.1 }).2 ≠ 0
    · rw [if_pos h4]
      exact Or.inl ⟨h4,Int.le_refl _,Int.natCast_nonneg _,rfl,rfl⟩
    rw [if_neg h4]
    have n:=hk.all_
    refine Or.inr ⟨rfl,rfl,Decidable.not_not.1 h4,h2,h1,?_,?_,?_,?_,?_,?_,?_,?_,?_⟩
    · show c.f0 = _;rw [e0];have:=n 0;omega
    · show (c.f1.length : Int) = _;rw [e1];have:=n 1;omega
    · show (c.f2.length : Int) = _;rw [e2];have:=n 2;omega
    · show (c.f3.length : Int) = _;rw [e3];have:=n 3;omega
    · show (c.f8.length : Int) = _;rw [e8];have:=n 4;omega
    · show (c.f4.length : Int) = _;rw [e4];have:=n 5;omega
    · show (c.f5.length : Int) = _;rw [e5];have:=n 6;omega
    · show (c.f6.length : Int) = _;rw [e6];have:=n 7;omega
    · show (c.f7.length : Int) = _;rw [e7];have:=n 8;omega
theorem head_end {s word : ByteArray} {k : List Int} {e : Int} (h : headF s = (word,k,e,0)) : ∃ n : Nat,e = (n : Int) + 1 ∧ s.data.toList[n]? = some 10:=by
  have bad : ∀ c : Int,headErr c = (word,k,e,0) → c ≠ 0 → False:=fun c hc h0 => by
    injection hc with _ hc;injection hc with _ hc;injection hc with _ hc;exact h0 hc
  unfold headF at h
  split at h
  · exact (bad _ h (by decide)).elim
  · unfold headOf at h
    split at h
    · exact (bad _ h (by decide)).elim
    · rename_i he
      have : e = ((cutS s 10).1.size : Int) + 1:=by
        repeat (split at h;exact (bad _ h (by decide)).elim)
        injection h with _ h
        injection h with _ h
        injection h with h _
        exact h.symm
      refine ⟨(cutS s 10).1.size,this,?_⟩
      unfold cutS Lib.cut at he ⊢
      rw [Lib.index_one] at he ⊢
      by_cases h0 : 0 ≤ Lib.indexByte s.data.toList 10
      · rw [if_pos h0]
        obtain ⟨o,ho⟩ : ∃ o : Nat,Lib.indexByte s.data.toList 10 = o:=⟨_,(Int.toNat_of_nonneg h0).symm⟩
        have h2:=(Lib.indexByte_some ho).1
        have h3:=(List.getElem?_eq_some_iff.1 h2).1
        rw [ho]
        have : (⟨(s.data.toList.take ((o : Int)).toNat).toArray⟩ : ByteArray).size = o:=by
          rw [← data_length]
          show (s.data.toList.take _).length = o
          rw [List.length_take,Int.toNat_natCast]
          omega
        rw [this]
        exact h2
      · rw [if_neg h0] at he
        exact absurd rfl he
end Go.Proofs.YtojepjkpnponoaaDoor.Asc
end
section
namespace Go.Proofs.YtojepjkpnponoaaDoor.Asc
open Go Go.RowKit Go.Proofs.YtojepjkpnponoaaDoorW.PrintWords
set_option linter.unusedVariables false
set_option linter.unusedSimpArgs false
def Nl (s : ByteArray) (q : Nat) : Prop:=∃ m : Nat,q = m + 1 ∧ s.data.toList[m]? = some 10
theorem lineR_nl {s : ByteArray} {p : Nat} {l : ByteArray} {q : Nat} (h : lineF s p = some (l,q)) : Nl s q:=by
  unfold lineF at h
  split at h
  · cases h
  · rename_i h0
    injection h with h
    injection h with h1 h2
    obtain ⟨o,ho⟩ : ∃ o : Nat,Lib.indexByte (s.extract p s.size).data.toList 10 = o:=⟨_,(Int.toNat_of_nonneg (by omega)).symm⟩
    rw [ho,Int.toNat_natCast] at h2
    refine ⟨p + o,h2.symm,?_⟩
    have h3:=(Lib.indexByte_some ho).1
    rw [Stim.extract_list,List.getElem?_take] at h3
    split at h3
    · rw [List.getElem?_drop] at h3
      exact h3
    · cases h3
theorem rowR_nl {s : ByteArray} {p a b : Nat} {x : List Int} {q : Nat} (h : rowF s p a b = some (x,q)) : Nl s q:=by
  unfold rowF at h
  obtain ⟨y,hy,h⟩:=Option.bind_eq_some_iff.1 h
  obtain ⟨ns,hn,h⟩:=Option.bind_eq_some_iff.1 h
  split at h
  · cases h
  · injection h with h
    injection h with h1 h2
    subst h2
    exact lineR_nl (l:=y.1) (q:=y.2) hy
def Rn {α : Type} (s : ByteArray) : Except Nat (List α × Nat) → Prop
  | .error e => True
  | .ok (l,q) => Nl s q
theorem listF_nl (s : ByteArray) : ∀ (n p : Nat),Nl s p → Rn s (listF s n p)
  | 0,p,h => h
  | n + 1,p,h => by
    unfold listF
    cases hr : rowF s p 1 1 with
    | none => trivial
    | some y =>
      have ih:=listF_nl s n y.2 (rowR_nl (x:=y.1) (q:=y.2) hr)
      dsimp only
      cases hl : listF s n y.2 with
      | error e => trivial
      | ok z => rw [hl] at ih;exact ih
theorem latchesF_nl (s : ByteArray) : ∀ (n p : Nat),Nl s p → Rn s (latchesF s n p)
  | 0,p,h => h
  | n + 1,p,h => by
    unfold latchesF
    cases hr : rowF s p 2 3 with
    | none => trivial
    | some y =>
      have ih:=latchesF_nl s n y.2 (rowR_nl (x:=y.1) (q:=y.2) hr)
      dsimp only
      cases hl : latchesF s n y.2 with
      | error e => trivial
      | ok z => rw [hl] at ih;exact ih
theorem andsF_nl (s : ByteArray) : ∀ (n p : Nat),Nl s p → Rn s (andsF s n p)
  | 0,p,h => h
  | n + 1,p,h => by
    unfold andsF
    cases hr : rowF s p 3 3 with
    | none => trivial
    | some y =>
      have ih:=andsF_nl s n y.2 (rowR_nl (x:=y.1) (q:=y.2) hr)
      dsimp only
      cases hl : andsF s n y.2 with
      | error e => trivial
      | ok z => rw [hl] at ih;exact ih
theorem sizesF_nl (s : ByteArray) : ∀ (n p : Nat),Nl s p → Rn s (sizesF' s n p)
  | 0,p,h => h
  | n + 1,p,h => by
    unfold sizesF'
    cases hr : rowF s p 1 1 with
    | none => trivial
    | some y =>
      have ih:=sizesF_nl s n y.2 (rowR_nl (x:=y.1) (q:=y.2) hr)
      dsimp only
      split
      · trivial
      · cases hl : sizesF' s n y.2 with
        | error e => trivial
        | ok z => rw [hl] at ih;exact ih
theorem justF_nl (s : ByteArray) : ∀ (ks : List Int) (p : Nat),Nl s p → Rn s (justF s ks p)
  | [],p,h => h
  | k :: ks,p,h => by
    unfold justF
    have h1:=listF_nl s k.toNat p h
    cases hr : listF s k.toNat p with
    | error e => trivial
    | ok y =>
      rw [hr] at h1
      have ih:=justF_nl s ks y.2 h1
      dsimp only
      cases hl : justF s ks y.2 with
      | error e => trivial
      | ok z => rw [hl] at ih;exact ih
def BodyNl (s : ByteArray) : Except Nat (S65 × Nat) → Prop
  | .error e => True
  | .ok (c,q) => Nl s q
theorem bodyN_nl (s : ByteArray) (m0 m1 m2 m3 m4 m5 m6 m7 m8 p : Nat) (h : Nl s p) : BodyNl s (bodyN s m0 m1 m2 m3 m4 m5 m6 m7 m8 p):=by
  unfold bodyN
  have h1:=listF_nl s m1 p h
  cases r1 : listF s m1 p with
  | error e => trivial
  | ok y1 =>
  rw [r1] at h1
  obtain ⟨x1,p⟩:=y1
  show BodyNl s (bL s m0 m3 m4 m5 m6 m7 m8 x1 (latchesF s m2 p))
  have h2:=latchesF_nl s m2 p h1
  cases r2 : latchesF s m2 p with
  | error e => trivial
  | ok y2 =>
  rw [r2] at h2
  obtain ⟨x2,p⟩:=y2
  show BodyNl s (bO s m0 m4 m5 m6 m7 m8 x1 x2 (listF s m3 p))
  have h3:=listF_nl s m3 p h2
  cases r3 : listF s m3 p with
  | error e => trivial
  | ok y3 =>
  rw [r3] at h3
  obtain ⟨x3,p⟩:=y3
  show BodyNl s (bB s m0 m4 m6 m7 m8 x1 x2 x3 (listF s m5 p))
  have h5:=listF_nl s m5 p h3
  cases r5 : listF s m5 p with
  | error e => trivial
  | ok y5 =>
  rw [r5] at h5
  obtain ⟨x5,p⟩:=y5
  show BodyNl s (bC s m0 m4 m7 m8 x1 x2 x3 x5 (listF s m6 p))
  have h6:=listF_nl s m6 p h5
  cases r6 : listF s m6 p with
  | error e => trivial
  | ok y6 =>
  rw [r6] at h6
  obtain ⟨x6,p⟩:=y6
  show BodyNl s (bZ s m0 m4 m8 x1 x2 x3 x5 x6 (sizesF' s m7 p))
  have h7:=sizesF_nl s m7 p h6
  cases r7 : sizesF' s m7 p with
  | error e => trivial
  | ok y7 =>
  rw [r7] at h7
  obtain ⟨x7,p⟩:=y7
  show BodyNl s (bJ s m0 m4 m8 x1 x2 x3 x5 x6 (justF s x7 p))
  have hj:=justF_nl s x7 p h7
  cases rj : justF s x7 p with
  | error e => trivial
  | ok yj =>
  rw [rj] at hj
  obtain ⟨xj,p⟩:=yj
  show BodyNl s (bF s m0 m4 x1 x2 x3 x5 x6 xj (listF s m8 p))
  have h8:=listF_nl s m8 p hj
  cases r8 : listF s m8 p with
  | error e => trivial
  | ok y8 =>
  rw [r8] at h8
  obtain ⟨x8,p⟩:=y8
  show BodyNl s (bA m0 x1 x2 x3 x5 x6 xj x8 (andsF s m4 p))
  have h4:=andsF_nl s m4 p h8
  cases r4 : andsF s m4 p with
  | error e => trivial
  | ok y4 =>
  rw [r4] at h4
  obtain ⟨x4,p⟩:=y4
  exact h4
theorem tailGo_nl (s : ByteArray) : ∀ (m p : Nat) (n : Bool) (z : List S59 × List ByteArray),Nl s p → tailGo s m p n = .ok z → ∃ r : Nat,s.size = r + 1 ∧ s.data.toList[r]? = some 10
  | 0,p,n,z,hp,h => by
    unfold tailGo at h
    cases h
  | m + 1,p,n,z,hp,h => by
    unfold tailGo at h
    split at h
    · rename_i hle
      obtain ⟨r,rfl,hr⟩:=hp
      have:=(List.getElem?_eq_some_iff.1 hr).1
      rw [data_length] at this
      exact ⟨r,by omega,hr⟩
    · split at h
      · cases h
      · rename_i l q hq
        have hq:=lineR_nl hq
        split at h
        · cases hr : tailGo s m q true with
          | error e' => rw [hr] at h;cases h
          | ok z' => exact tailGo_nl s m q true _ hq hr
        · split at h
          · exact tailGo_nl s m q true z hq h
          · split at h
            · cases h
            · cases hr : tailGo s m q false with
              | error e' => rw [hr] at h;cases h
              | ok z' => exact tailGo_nl s m q false _ hq hr
theorem tailF_nl {s : ByteArray} {p : Nat} (hp : Nl s p) (h : (tailF s p).2.2.2 = 0) : ∃ r : Nat,s.size = r + 1 ∧ s.data.toList[r]? = some 10:=by
  unfold tailF at h
  split at h
  · cases h
  · split at h
    · cases h
    · cases hr : tailGo s (s.size + 1) ((p : Nat) : Int).toNat false with
      | error e => rw [hr] at h;cases h
      | ok z => exact tailGo_nl s _ _ _ z (by rw [Int.toNat_natCast];exact hp) hr
theorem read_nl {s : ByteArray} {x : S65} {a : Int} (h : readF s = (x,a,0)) : ∃ r : Nat,s.size = r + 1 ∧ s.data.toList[r]? = some 10:=by
  unfold readF at h
  by_cases h1 : (headF s).2.2.2 ≠ 0
  · rw [if_pos h1] at h
    injection h with _ h
    injection h with _ h
    exact absurd h h1
  rw [if_neg h1] at h
  by_cases h2 : (headF s).1 ≠ aagB
  · rw [if_pos h2] at h
    injection h with _ h
    injection h with _ h
    cases h
  rw [if_neg h2] at h
  have h1 : (headF s).2.2.2 = 0:=by omega
  obtain ⟨n,he,hn⟩:=head_end (s:=s) (word:=(headF s).1) (k:=(headF s).2.1) (e:=(headF s).2.2.1) (by rw [← h1])
  have hB:=bodyN_nl s ((headF s).2.1.getD 0 0).toNat ((headF s).2.1.getD 1 0).toNat ((headF s).2.1.getD 2 0).toNat ((headF s).2.1.getD 3 0).toNat ((headF s).2.1.getD 4 0).toNat ((headF s).2.1.getD 5 0).toNat ((headF s).2.1.getD 6 0).toNat ((headF s).2.1.getD 7 0).toNat ((headF s).2.1.getD 8 0).toNat (headF s).2.2.1.toNat ⟨n,by rw [he];omega,hn⟩
  generalize bodyN s ((headF s).2.1.getD 0 0).toNat ((headF s).2.1.getD 1 0).toNat ((headF s).2.1.getD 2 0).toNat ((headF s).2.1.getD 3 0).toNat ((headF s).2.1.getD 4 0).toNat ((headF s).2.1.getD 5 0).toNat ((headF s).2.1.getD 6 0).toNat ((headF s).2.1.getD 7 0).toNat ((headF s).2.1.getD 8 0).toNat (headF s).2.2.1.toNat = B at hB h
  cases B with
  | error e =>
    injection h with _ h
    injection h with _ h
    cases h
  | ok y =>
    obtain ⟨c,q⟩:=y
    unfold readBody readEnd at h
    dsimp only at h
    by_cases h3 : (tailF s q).2.2.2 ≠ 0
    · rw [if_pos h3] at h
      injection h with _ h
      injection h with _ h
      exact absurd h h3
    exact tailF_nl hB (by omega)
end Go.Proofs.YtojepjkpnponoaaDoor.Asc
end
