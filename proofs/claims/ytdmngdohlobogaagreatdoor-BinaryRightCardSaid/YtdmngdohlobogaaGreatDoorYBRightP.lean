import Derived.Test.YtdmngdohlobogaaGreatDoorYM41
import Derived.Test.YtdmngdohlobogaaGreatDoorYBRenum
namespace Go.Proofs.YtdmngdohlobogaaGreatDoor.Asc
open Go Go.RowKit Go.Proofs.YtdmngdohlobogaaGreatDoorW.PrintWords
set_option linter.unusedVariables false
set_option linter.unusedSimpArgs false
theorem used_lits {c : S65} {by_ : List S40} (h : (usesF c by_).2 = 0) : (∀ x ∈ c.f2,0 ≤ x.f1 ∧ x.f1 ≤ 2 * c.f0 + 1) ∧ (∀ x ∈ c.f3,0 ≤ x ∧ x ≤ 2 * c.f0 + 1) ∧ (∀ x ∈ c.f4,0 ≤ x ∧ x ≤ 2 * c.f0 + 1) ∧ (∀ x ∈ c.f5,0 ≤ x ∧ x ≤ 2 * c.f0 + 1) ∧ (∀ r ∈ c.f6,∀ x ∈ r,0 ≤ x ∧ x ≤ 2 * c.f0 + 1) ∧ (∀ x ∈ c.f7,0 ≤ x ∧ x ≤ 2 * c.f0 + 1):=by
 unfold usesF at h
 obtain ⟨a1,h⟩:=thenU_zero h
 unfold usesOuts at h
 obtain ⟨a2,h⟩:=thenU_zero h
 unfold usesBads at h
 obtain ⟨a3,h⟩:=thenU_zero h
 unfold usesCons at h
 obtain ⟨a4,h⟩:=thenU_zero h
 unfold usesJust at h
 obtain ⟨a5,h⟩:=thenU_zero h
 unfold usesFair at h
 obtain ⟨a6,h⟩:=thenU_zero h
 have one : ∀ x : Int,use1 c.f0 by_ x = 0 → 0 ≤ x ∧ x ≤ 2 * c.f0 + 1:=fun x hx => useF_zero [x] hx x (List.mem_singleton_self x)
 exact ⟨fun x hx => one _ (firstBad_zero _ _ a1 x hx),fun x hx => one _ (firstBad_zero _ _ a2 x hx),fun x hx => one _ (firstBad_zero _ _ a3 x hx),fun x hx => one _ (firstBad_zero _ _ a4 x hx),fun r hr => useF_zero r (firstBad_zero _ _ a5 r hr),fun x hx => one _ (firstBad_zero _ _ a6 x hx)⟩
theorem latches_reset {mx : Int} : ∀ (l : List S108) (i : Nat) (by_ : List S40),(defLatches mx l i by_).2.1 = 0 → ∀ x ∈ l,x.f2 = 0 ∨ x.f2 = 1 ∨ x.f2 = x.f0
 |[],i,by_,h,x,hx => by cases hx
 |y :: l,i,by_,h,x,hx => by
  rw [defLatches] at h
  split at h
  ·split at h
   ·exact absurd h (show ¬ (33 : Int) = 0 by decide)
   ·rename_i h1
    rcases List.mem_cons.1 hx with rfl|hx
    ·omega
    ·exact latches_reset l (i + 1) _ h x hx
  ·rename_i h1
   exact absurd h h1
theorem defs_zero {c : S65} {by_ : List S40} (h : (definesF c by_).2.1 = 0) : (defInputs c.f0 c.f1 0 by_).2.1 = 0 ∧ (defLatches c.f0 c.f2 0 (defInputs c.f0 c.f1 0 by_).2.2).2.1 = 0 ∧ (definesF c by_).2.2 = (defAnds c.f0 c.f8 0 (defLatches c.f0 c.f2 0 (defInputs c.f0 c.f1 0 by_).2.2).2.2).2.2:=by
 unfold definesF finish1 at h ⊢
 by_cases h1 : (defInputs c.f0 c.f1 0 by_).2.1 = 0
 ·rw [if_pos h1] at h ⊢
  unfold finish2 at h ⊢
  by_cases h2 : (defLatches c.f0 c.f2 0 (defInputs c.f0 c.f1 0 by_).2.2).2.1 = 0
  ·rw [if_pos h2] at h ⊢
   exact ⟨h1,h2,rfl⟩
  ·rw [if_neg h2] at h
   exact absurd h h2
 ·rw [if_neg h1] at h
  exact absurd h h1
def G3 (K : Nat) (by_ : List S40) : Prop:=∀ (v : Nat) (m : S40),by_[v]? = some m → m.f0 = 3 → m.f1 = (v : Int) - K
theorem G3.define {K : Nat} {mx l : Int} {by_ : List S40} {m : S40} (h : G3 K by_) (hm : m.f0 = 3 → m.f1 = ((l / 2).toNat : Int) - K) : G3 K (defineF mx by_ l m).2:=by
 unfold defineF
 split
 ·exact h
 ·split
  ·exact h
  ·intro v y hv h3
   dsimp only at hv
   rw [List.getElem?_set] at hv
   split at hv
   ·rename_i he
    subst he
    split at hv
    ·injection hv with hv
     subst hv
     exact hm h3
    ·cases hv
   ·exact h v y hv h3
theorem G3.inputs {K : Nat} {mx : Int} : ∀ (l : List Int) (i : Nat) (by_ : List S40),G3 K by_ → G3 K (defInputs mx l i by_).2.2
 |[],i,by_,h => h
 |x :: l,i,by_,h => by
  rw [defInputs]
  have h1 : G3 K (defineF mx by_ x ⟨1,i⟩).2:=h.define (fun e => absurd (show (1 : Int) = 3 from e) (by decide))
  split
  ·exact G3.inputs l (i + 1) _ h1
  ·exact h1
theorem G3.latches {K : Nat} {mx : Int} : ∀ (l : List S108) (i : Nat) (by_ : List S40),G3 K by_ → G3 K (defLatches mx l i by_).2.2
 |[],i,by_,h => h
 |x :: l,i,by_,h => by
  rw [defLatches]
  have h1 : G3 K (defineF mx by_ x.f0 ⟨2,i⟩).2:=h.define (fun e => absurd (show (2 : Int) = 3 from e) (by decide))
  split
  ·split
   ·exact h1
   ·exact G3.latches l (i + 1) _ h1
  ·exact h1
theorem G3.ands {K : Nat} {mx : Int} : ∀ (l : List S125) (i : Nat) (by_ : List S40),G3 K by_ → (∀ (j : Nat) (x : S125),l[j]? = some x → x.f0 = 2 * ((K + i + j : Nat) : Int)) → G3 K (defAnds mx l i by_).2.2
 |[],i,by_,h,hl => h
 |x :: l,i,by_,h,hl => by
  rw [defAnds]
  have hx:=hl 0 x rfl
  have h1 : G3 K (defineF mx by_ x.f0 ⟨3,i⟩).2:=h.define (fun _ => by show (i : Int) = _;rw [hx];omega)
  split
  ·exact G3.ands l (i + 1) _ h1 (fun j y hy => by have:=hl (j + 1) y (by simpa using hy);rw [this];congr 2;omega)
  ·exact h1
theorem below_of {K : Nat} {by_ : List S40} (h : G3 K by_) (hg : ∀ m ∈ by_,m.f0 = 3 → 0 ≤ m.f1) {l : Int} (h0 : 0 ≤ l) : ∀ y ∈ belowOf by_ l,0 ≤ y ∧ y = l / 2 - K:=by
 intro y hy
 unfold belowOf at hy
 split at hy
 ·rename_i h3
  rw [List.mem_singleton] at hy
  subst hy
  unfold makerOf at h3 ⊢
  rw [List.getD_eq_getElem?_getD] at h3 ⊢
  cases hm : by_[(l / 2).toNat]? with
  |none => rw [hm] at h3;exact absurd h3 (by decide)
  |some m =>
   rw [hm] at h3
   have h1:=h _ m hm h3
   have h2:=hg m (List.mem_of_getElem? hm) h3
   refine ⟨h2,?_⟩
   show m.f1 = _
   rw [h1]
   omega
 ·cases hy
theorem latchesB_is {s : ByteArray} : ∀ (n a p : Nat) {l : List S108} {q : Nat},latchesB s a n p = .ok (l,q) → l.length = n ∧ ∀ (i : Nat) (x : S108),l[i]? = some x → x.f0 = 2 * (((a + i : Nat) : Int) + 1)
 |0,a,p,l,q,h => by
  rw [latchesB] at h
  injection h with h
  injection h with h1 h2
  subst h1
  exact ⟨rfl,fun i x hx => by simp at hx⟩
 |n + 1,a,p,l,q,h => by
  rw [latchesB] at h
  split at h
  ·cases h
  ·split at h
   ·cases h
   ·rename_i l1 r1 hl
    injection h with h
    injection h with h1 h2
    subst h1
    obtain ⟨e1,e2⟩:=latchesB_is n (a + 1) _ hl
    refine ⟨by simp [e1],fun i x hx => ?_⟩
    rcases i with _|i
    ·simp at hx
     subst hx
     rfl
    ·have:=e2 i x (by simpa using hx)
     rw [this]
     congr 2
     omega
theorem gatesB_is {s : ByteArray} : ∀ (n a p : Nat) {l : List S125} {q : Nat},gatesB s a n p = .ok (l,q) → l.length = n ∧ ∀ (i : Nat) (x : S125),l[i]? = some x → x.f0 = 2 * (((a + i : Nat) : Int) + 1) ∧ 0 ≤ x.f2 ∧ x.f2 ≤ x.f1 ∧ x.f1 < x.f0
 |0,a,p,l,q,h => by
  rw [gatesB] at h
  injection h with h
  injection h with h1 h2
  subst h1
  exact ⟨rfl,fun i x hx => by simp at hx⟩
 |n + 1,a,p,l,q,h => by
  rw [gatesB] at h
  split at h
  ·cases h
  ·split at h
   ·cases h
   ·rename_i hx0
    split at h
    ·cases h
    ·split at h
     ·cases h
     ·rename_i hy0
      split at h
      ·cases h
      ·rename_i l1 r1 hl
       injection h with h
       injection h with h1 h2
       subst h1
       obtain ⟨e1,e2⟩:=gatesB_is n (a + 1) _ hl
       refine ⟨by simp [e1],fun i x hx => ?_⟩
       rcases i with _|i
       ·simp at hx
        subst hx
        dsimp only
        omega
       ·obtain ⟨f1,f2⟩:=e2 i x (by simpa using hx)
        refine ⟨?_,f2⟩
        rw [f1]
        congr 2
        omega
theorem formB_is {s : ByteArray} {m0 m1 m2 m3 m5 m6 m7 m8 p q : Nat} {c : S65} (h : formB s m0 m1 m2 m3 m5 m6 m7 m8 p = .ok (c,q)) : c.f0 = m0 ∧ c.f1 = inputsB m1 ∧ c.f2.length = m2 ∧ ∀ (i : Nat) (x : S108),c.f2[i]? = some x → x.f0 = 2 * (((m1 + i : Nat) : Int) + 1):=by
 unfold formB at h
 split at h
 ·cases h
 ·rename_i hl
  split at h
  ·cases h
  ·split at h
   ·cases h
   ·split at h
    ·cases h
    ·split at h
     ·cases h
     ·split at h
      ·cases h
      ·injection h with h
       injection h with h _
       subst h
       obtain ⟨e1,e2⟩:=latchesB_is _ _ _ hl
       exact ⟨rfl,rfl,e1,e2⟩
theorem inputsB_get (n i : Nat) (x : Int) (h : (inputsB n)[i]? = some x) : i < n ∧ x = 2 * ((i : Int) + 1):=by
 unfold inputsB at h
 rw [List.getElem?_map] at h
 obtain ⟨v,hv,rfl⟩:=Option.map_eq_some_iff.1 h
 obtain ⟨h1,h2⟩:=List.getElem?_eq_some_iff.1 hv
 simp at h1 h2
 subst h2
 exact ⟨h1,rfl⟩
theorem bin_mk {x : S65} {m1 m2 m4 : Nat} (hm : x.f0 = (m1 : Int) + m2 + m4) (h1 : x.f1 = inputsB m1) (h2 : x.f2.length = m2) (h8 : x.f8.length = m4)
  (i2 : ∀ (i : Nat) (y : S108),x.f2[i]? = some y → y.f0 = 2 * (((m1 + i : Nat) : Int) + 1))
  (i8 : ∀ (i : Nat) (y : S125),x.f8[i]? = some y → y.f0 = 2 * (((m1 + m2 + i : Nat) : Int) + 1) ∧ 0 ≤ y.f2 ∧ y.f2 ≤ y.f1 ∧ y.f1 < y.f0) (h0 : (lookF x).2 = 0) : Bin x:=by
 have k0:=(look0 h0).1
 have l1 : x.f1.length = m1:=by rw [h1];simp [inputsB]
 obtain ⟨u2,u3,u4,u5,u6,u7⟩:=used_lits k0.us
 obtain ⟨d1,d2,d3⟩:=defs_zero k0.df
 have hr:=latches_reset _ _ _ d2
 have hg:=by_gates x
 have hG : G3 (m1 + m2 + 1) (byF x):=by
  unfold byF
  rw [d3]
  refine G3.ands _ _ _ (G3.latches _ _ _ (G3.inputs _ _ _ (fun v m hv h3 => ?_))) (fun j y hy => ?_)
  ·have:=List.eq_of_mem_replicate (List.mem_of_getElem? hv)
   subst this
   exact absurd h3 (by decide)
  ·rw [(i8 j y hy).1]
   omega
 refine ⟨by rw [l1,h2,h8];exact hm,?_,?_,?_,?_,u2,?_,u3,u4,u5,u6,u7,?_⟩
 ·intro i y hy
  rw [h1] at hy
  exact (inputsB_get _ _ _ hy).2
 ·intro i y hy
  rw [l1]
  exact i2 i y hy
 ·intro i y hy
  rw [l1,h2]
  exact i8 i y hy
 ·intro y hy
  obtain ⟨i,hi⟩:=List.mem_iff_getElem?.1 hy
  rw [h1] at hi
  have:=inputsB_get _ _ _ hi
  omega
 ·intro y hy
  obtain ⟨i,hi⟩:=List.mem_iff_getElem?.1 hy
  have h3:=i2 i y hi
  have h4:=(List.getElem?_eq_some_iff.1 hi).1
  have h5:=hr y hy
  omega
 ·refine order_id (fun i y hy z hz => ?_)
  have h3:=i8 i y hy
  unfold belowF at hz
  rcases List.mem_append.1 hz with hz|hz
  ·have:=below_of hG (fun m hm h => (hg m hm h).1) (show 0 ≤ y.f1 by omega) z hz
   omega
  ·have:=below_of hG (fun m hm h => (hg m hm h).1) (show 0 ≤ y.f2 by omega) z hz
   omega
theorem bin_of {s : ByteArray} {x : S65} {a : Int} (h : readB s = (x,a,0)) : Bin x ∧ (lookF x).2 = 0:=by
 unfold readB at h
 split at h
 ·rename_i h1
  injection h with _ h
  injection h with _ h
  exact absurd h h1
 ·rename_i hd0
  split at h
  ·injection h with _ h
   injection h with _ h
   exact absurd h (by decide)
  ·split at h
   ·injection h with _ h
    injection h with _ h
    exact absurd h (by decide)
   ·rename_i hcnt
    unfold readGatesB at h
    split at h
    ·injection h with _ h
     injection h with _ h
     exact absurd h (by decide)
    ·rename_i c q hf
     split at h
     ·injection h with _ h
      injection h with _ h
      exact absurd h (by decide)
     ·rename_i l r hg
      obtain ⟨hx,h0⟩:=readEnd_ok h
      obtain ⟨e1,e2,e3,e4⟩:=formB_is hf
      obtain ⟨g1,g2⟩:=gatesB_is _ _ _ hg
      obtain ⟨word,ms,en,cd,hh⟩ : ∃ a b c d,headF s = (a,b,c,d):=⟨_,_,_,_,rfl⟩
      rw [hh] at hd0 hcnt e1 e2 e3 e4 g1 g2
      dsimp only at hd0 hcnt e1 e2 e3 e4 g1 g2
      obtain rfl : cd = 0:=Decidable.not_not.1 hd0
      have hok:=head_ok hh
      have p0:=(hok.all_ 0).1
      have p1:=(hok.all_ 1).1
      have p2:=(hok.all_ 2).1
      have p4:=(hok.all_ 4).1
      have hc : ms.getD 0 0 = ms.getD 1 0 + ms.getD 2 0 + ms.getD 4 0:=Decidable.not_not.1 hcnt
      clear hcnt hok hd0 hh hf hg h
      obtain ⟨m0,q0⟩ : ∃ m : Nat,ms.getD 0 0 = (m : Int):=⟨_,(Int.toNat_of_nonneg p0).symm⟩
      obtain ⟨m1,q1⟩ : ∃ m : Nat,ms.getD 1 0 = (m : Int):=⟨_,(Int.toNat_of_nonneg p1).symm⟩
      obtain ⟨m2,q2⟩ : ∃ m : Nat,ms.getD 2 0 = (m : Int):=⟨_,(Int.toNat_of_nonneg p2).symm⟩
      obtain ⟨m4,q4⟩ : ∃ m : Nat,ms.getD 4 0 = (m : Int):=⟨_,(Int.toNat_of_nonneg p4).symm⟩
      rw [q0,q1,q2,q4] at hc
      rw [q0,Int.toNat_natCast] at e1
      rw [q1,Int.toNat_natCast] at e2 e4
      rw [q2,Int.toNat_natCast] at e3
      rw [q4,Int.toNat_natCast] at g1
      rw [q1,q2,Int.toNat_natCast,Int.toNat_natCast] at g2
      clear p0 p1 p2 p4 q0 q1 q2 q4
      refine ⟨bin_mk (x:=x) (m1:=m1) (m2:=m2) (m4:=m4) (by subst hx;show c.f0 = _;rw [e1];omega) (by subst hx;exact e2) (by subst hx;exact e3) (by subst hx;exact g1) (by subst hx;exact e4) (by subst hx;exact g2) h0,h0⟩
def Er {α : Type} (s : ByteArray) : Except Nat α → Prop
 |.error e => e ≤ s.size
 |.ok _ => True
theorem listB_er {s : ByteArray} : ∀ (n p : Nat),p ≤ s.size → Er s (listB s n p)
 |0,p,h => trivial
 |n + 1,p,h => by
  rw [listB]
  split
  ·exact h
  ·rename_i x q hr
   have ih:=listB_er n q (rowB_place h hr).2
   split
   ·rename_i e he
    rw [he] at ih
    exact ih
   ·trivial
theorem latchesB_er {s : ByteArray} : ∀ (n a p : Nat),p ≤ s.size → Er s (latchesB s a n p)
 |0,a,p,h => by rw [latchesB];trivial
 |n + 1,a,p,h => by
  rw [latchesB]
  split
  ·exact h
  ·rename_i x q hr
   have ih:=latchesB_er n (a + 1) q (rowB_place h hr).2
   split
   ·rename_i e he
    rw [he] at ih
    exact ih
   ·trivial
theorem sizesB_er {s : ByteArray} : ∀ (n p : Nat),p ≤ s.size → Er s (sizesB s n p)
 |0,p,h => trivial
 |n + 1,p,h => by
  rw [sizesB]
  split
  ·exact h
  ·rename_i x q hr
   split
   ·exact h
   ·have ih:=sizesB_er n q (rowB_place h hr).2
    split
    ·rename_i e he
     rw [he] at ih
     exact ih
    ·trivial
theorem sizesB_pl {s : ByteArray} : ∀ (n p : Nat) {l : List Int} {q : Nat},p ≤ s.size → sizesB s n p = .ok (l,q) → q ≤ s.size
 |0,p,l,q,h,he => by
  rw [sizesB] at he
  injection he with he
  injection he with h1 h2
  omega
 |n + 1,p,l,q,h,he => by
  rw [sizesB] at he
  split at he
  ·cases he
  ·rename_i x q1 hr
   split at he
   ·cases he
   ·split at he
    ·cases he
    ·rename_i hl
     injection he with he
     injection he with h1 h2
     have:=sizesB_pl n q1 (rowB_place h hr).2 hl
     omega
theorem justB_er {s : ByteArray} : ∀ (ks : List Int) (p : Nat),p ≤ s.size → Er s (justB s ks p)
 |[],p,h => trivial
 |k :: ks,p,h => by
  rw [justB]
  have h1:=listB_er k.toNat p h
  split
  ·rename_i e he
   rw [he] at h1
   exact h1
  ·rename_i x q hr
   have ih:=justB_er ks q (listB_place _ _ h hr)
   split
   ·rename_i e he
    rw [he] at ih
    exact ih
   ·trivial
theorem justAllB_er {s : ByteArray} (n p : Nat) (h : p ≤ s.size) : Er s (justAllB s n p):=by
 unfold justAllB
 have h1:=sizesB_er n p h
 split
 ·rename_i e he
  rw [he] at h1
  exact h1
 ·rename_i z q hr
  exact justB_er z q (sizesB_pl n p h hr)
theorem gatesB_er {s : ByteArray} : ∀ (n a p : Nat),p ≤ s.size → Er s (gatesB s a n p)
 |0,a,p,h => by rw [gatesB];trivial
 |n + 1,a,p,h => by
  rw [gatesB]
  split
  ·exact h
  ·rename_i x q hg
   split
   ·exact h
   ·have hq:=(getW_le hg).2.1
    split
    ·exact hq
    ·rename_i y r hg2
     split
     ·exact hq
     ·have ih:=gatesB_er n (a + 1) r (getW_le hg2).2.1
      split
      ·rename_i e he
       rw [he] at ih
       exact ih
      ·trivial
theorem formB_er {s : ByteArray} {m0 m1 m2 m3 m5 m6 m7 m8 p : Nat} (h : p ≤ s.size) : Er s (formB s m0 m1 m2 m3 m5 m6 m7 m8 p) ∧ ∀ c q,formB s m0 m1 m2 m3 m5 m6 m7 m8 p = .ok (c,q) → q ≤ s.size:=by
 unfold formB
 have h1:=latchesB_er m2 m1 p h
 split
 ·rename_i e he
  rw [he] at h1
  exact ⟨h1,fun c q hc => by cases hc⟩
 ·rename_i l2 q2 hl2
  have hq2:=latchesB_place _ _ _ h hl2
  have h3:=listB_er m3 q2 hq2
  split
  ·rename_i e he
   rw [he] at h3
   exact ⟨h3,fun c q hc => by cases hc⟩
  ·rename_i l3 q3 hl3
   have hq3:=listB_place _ _ hq2 hl3
   have h4:=listB_er m5 q3 hq3
   split
   ·rename_i e he
    rw [he] at h4
    exact ⟨h4,fun c q hc => by cases hc⟩
   ·rename_i l4 q4 hl4
    have hq4:=listB_place _ _ hq3 hl4
    have h5:=listB_er m6 q4 hq4
    split
    ·rename_i e he
     rw [he] at h5
     exact ⟨h5,fun c q hc => by cases hc⟩
    ·rename_i l5 q5 hl5
     have hq5:=listB_place _ _ hq4 hl5
     have h6:=justAllB_er m7 q5 hq5
     split
     ·rename_i e he
      rw [he] at h6
      exact ⟨h6,fun c q hc => by cases hc⟩
     ·rename_i l6 q6 hl6
      have hq6:=justAllB_place hq5 hl6
      have h7:=listB_er m8 q6 hq6
      split
      ·rename_i e he
       rw [he] at h7
       exact ⟨h7,fun c q hc => by cases hc⟩
      ·rename_i l7 q7 hl7
       have hq7:=listB_place _ _ hq6 hl7
       exact ⟨trivial,fun c q hc => by injection hc with hc;injection hc with _ hc;omega⟩
def BadB (s : ByteArray) (r : S65 × Int × Int) : Prop:=r.1 = x0S ∧ r.2.2 ≠ 0 ∧ 0 ≤ r.2.1 ∧ r.2.1 ≤ s.size
theorem bad_law (s : ByteArray) : BadB s (readB s) ∨ ∃ x,readB s = (x,0,0):=by
 unfold readB
 split
 ·rename_i h1
  exact .inl ⟨rfl,h1,Int.le_refl _,Int.natCast_nonneg _⟩
 ·rename_i hd0
  split
  ·exact .inl ⟨rfl,by decide,Int.le_refl _,Int.natCast_nonneg _⟩
  ·split
   ·exact .inl ⟨rfl,by decide,Int.le_refl _,Int.natCast_nonneg _⟩
   ·obtain ⟨word,ms,en,cd,hh⟩ : ∃ a b c d,headF s = (a,b,c,d):=⟨_,_,_,_,rfl⟩
    rw [hh] at hd0 ⊢
    dsimp only at hd0 ⊢
    obtain rfl : cd = 0:=Decidable.not_not.1 hd0
    have hok:=head_ok hh
    have hp : en.toNat ≤ s.size:=by have:=hok.place;omega
    obtain ⟨f1,f2⟩:=formB_er (m0:=(ms.getD 0 0).toNat) (m1:=(ms.getD 1 0).toNat) (m2:=(ms.getD 2 0).toNat) (m3:=(ms.getD 3 0).toNat) (m5:=(ms.getD 5 0).toNat) (m6:=(ms.getD 6 0).toNat) (m7:=(ms.getD 7 0).toNat) (m8:=(ms.getD 8 0).toNat) hp
    unfold readGatesB
    split
    ·rename_i e he
     rw [he] at f1
     exact .inl ⟨rfl,(show (42 : Int) ≠ 0 by decide),Int.natCast_nonneg _,Int.ofNat_le.2 f1⟩
    ·rename_i c q hf
     have hq:=f2 _ _ hf
     have hg:=gatesB_er (s:=s) (ms.getD 4 0).toNat ((ms.getD 1 0).toNat + (ms.getD 2 0).toNat) q hq
     split
     ·rename_i e he
      rw [he] at hg
      exact .inl ⟨rfl,(show (52 : Int) ≠ 0 by decide),Int.natCast_nonneg _,Int.ofNat_le.2 hg⟩
     ·rename_i l r hgo
      have hr:=gatesB_place _ _ _ hq hgo
      have ht:=tailF_place hr
      unfold readEnd
      split
      ·rename_i h1
       exact .inl ⟨rfl,h1,ht⟩
      ·split
       ·rename_i h1
        exact .inl ⟨rfl,h1,Int.le_refl _,Int.natCast_nonneg _⟩
       ·exact .inr ⟨_,rfl⟩
end Go.Proofs.YtdmngdohlobogaaGreatDoor.Asc

