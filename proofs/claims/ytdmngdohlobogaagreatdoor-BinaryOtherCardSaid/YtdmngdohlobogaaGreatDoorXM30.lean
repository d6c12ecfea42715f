import Derived.Test.YtdmngdohlobogaaGreatDoorXM27
import Derived.Lib.IndexLaws
import Derived.Test.YtdmngdohlobogaaGreatDoorXM14
import Derived.Test.YtdmngdohlobogaaGreatDoorXM5
section
namespace Go.Proofs.YtdmngdohlobogaaGreatDoor.Asc
open Go Go.RowKit Go.Proofs.YtdmngdohlobogaaGreatDoorW.PrintWords
set_option linter.unusedVariables false
set_option linter.unusedSimpArgs false
theorem lineR_place {s : ByteArray} {p : Nat} {l : ByteArray} {q : Nat} (h : lineF s p = some (l,q)) : q ≤ s.size:=by
 unfold lineF at h
 split at h
 ·cases h
 ·have hl:=Stim.indexByte_lt (s.extract p s.size).data.toList 10
  have hd : (s.extract p s.size).data.toList.length ≤ s.size - p:=by
   rw [Stim.extract_list,List.length_take,List.length_drop,data_length]
   omega
  injection h with h
  injection h with h1 h2
  omega
theorem rowR_place {s : ByteArray} {p a b : Nat} {x : List Int} {q : Nat} (h : rowF s p a b = some (x,q)) : q ≤ s.size:=by
 unfold rowF at h
 obtain ⟨y,hy,h⟩:=Option.bind_eq_some_iff.1 h
 obtain ⟨ns,hn,h⟩:=Option.bind_eq_some_iff.1 h
 split at h
 ·cases h
 ·injection h with h
  injection h with h1 h2
  subst h2
  exact lineR_place (l:=y.1) (q:=y.2) hy
def Rd {α : Type} (s : ByteArray) (m : Nat) : Except Nat (List α × Nat) → Prop
 |.error e => e ≤ s.size
 |.ok (l,q) => q ≤ s.size ∧ l.length = m
theorem listF_rd (s : ByteArray) : ∀ (n p : Nat),p ≤ s.size → Rd s n (listF s n p)
 |0,p,h => ⟨h,rfl⟩
 |n + 1,p,h => by
  unfold listF
  cases hr : rowF s p 1 1 with
  |none => exact h
  |some y =>
   have ih:=listF_rd s n y.2 (rowR_place (x:=y.1) (q:=y.2) hr)
   dsimp only
   cases hl : listF s n y.2 with
   |error e => rw [hl] at ih;exact ih
   |ok z => rw [hl] at ih;exact ⟨ih.1,by simp [ih.2]⟩
theorem latchesF_rd (s : ByteArray) : ∀ (n p : Nat),p ≤ s.size → Rd s n (latchesF s n p)
 |0,p,h => ⟨h,rfl⟩
 |n + 1,p,h => by
  unfold latchesF
  cases hr : rowF s p 2 3 with
  |none => exact h
  |some y =>
   have ih:=latchesF_rd s n y.2 (rowR_place (x:=y.1) (q:=y.2) hr)
   dsimp only
   cases hl : latchesF s n y.2 with
   |error e => rw [hl] at ih;exact ih
   |ok z => rw [hl] at ih;exact ⟨ih.1,by simp [ih.2]⟩
theorem andsF_rd (s : ByteArray) : ∀ (n p : Nat),p ≤ s.size → Rd s n (andsF s n p)
 |0,p,h => ⟨h,rfl⟩
 |n + 1,p,h => by
  unfold andsF
  cases hr : rowF s p 3 3 with
  |none => exact h
  |some y =>
   have ih:=andsF_rd s n y.2 (rowR_place (x:=y.1) (q:=y.2) hr)
   dsimp only
   cases hl : andsF s n y.2 with
   |error e => rw [hl] at ih;exact ih
   |ok z => rw [hl] at ih;exact ⟨ih.1,by simp [ih.2]⟩
theorem sizesF_rd (s : ByteArray) : ∀ (n p : Nat),p ≤ s.size → Rd s n (sizesF' s n p)
 |0,p,h => ⟨h,rfl⟩
 |n + 1,p,h => by
  unfold sizesF'
  cases hr : rowF s p 1 1 with
  |none => exact h
  |some y =>
   have ih:=sizesF_rd s n y.2 (rowR_place (x:=y.1) (q:=y.2) hr)
   dsimp only
   split
   ·exact h
   ·cases hl : sizesF' s n y.2 with
    |error e => rw [hl] at ih;exact ih
    |ok z => rw [hl] at ih;exact ⟨ih.1,by simp [ih.2]⟩
theorem justF_rd (s : ByteArray) : ∀ (ks : List Int) (p : Nat),p ≤ s.size → Rd s ks.length (justF s ks p)
 |[],p,h => ⟨h,rfl⟩
 |k :: ks,p,h => by
  unfold justF
  have h1:=listF_rd s k.toNat p h
  cases hr : listF s k.toNat p with
  |error e => rw [hr] at h1;exact h1
  |ok y =>
   rw [hr] at h1
   have ih:=justF_rd s ks y.2 h1.1
   dsimp only
   cases hl : justF s ks y.2 with
   |error e => rw [hl] at ih;exact ih
   |ok z => rw [hl] at ih;exact ⟨ih.1,by simp [ih.2]⟩
def BodyR (s : ByteArray) (m0 m1 m2 m3 m4 m5 m6 m7 m8 : Nat) : Except Nat (S65 × Nat) → Prop
 |.error e => e ≤ s.size
 |.ok (c,q) => q ≤ s.size ∧ c.f0 = m0 ∧ c.f1.length = m1 ∧ c.f2.length = m2 ∧ c.f3.length = m3 ∧ c.f4.length = m5 ∧ c.f5.length = m6 ∧ c.f6.length = m7 ∧ c.f7.length = m8 ∧ c.f8.length = m4
theorem bodyN_rd (s : ByteArray) (m0 m1 m2 m3 m4 m5 m6 m7 m8 p : Nat) (h : p ≤ s.size) : BodyR s m0 m1 m2 m3 m4 m5 m6 m7 m8 (bodyN s m0 m1 m2 m3 m4 m5 m6 m7 m8 p):=by
 unfold bodyN
 have h1:=listF_rd s m1 p h
 cases r1 : listF s m1 p with
 |error e => rw [r1] at h1;exact h1
 |ok y1 =>
 rw [r1] at h1
 obtain ⟨x1,p⟩:=y1
 show BodyR s m0 m1 m2 m3 m4 m5 m6 m7 m8 (bL s m0 m3 m4 m5 m6 m7 m8 x1 (latchesF s m2 p))
 have h2:=latchesF_rd s m2 p h1.1
 cases r2 : latchesF s m2 p with
 |error e => rw [r2] at h2;exact h2
 |ok y2 =>
 rw [r2] at h2
 obtain ⟨x2,p⟩:=y2
 show BodyR s m0 m1 m2 m3 m4 m5 m6 m7 m8 (bO s m0 m4 m5 m6 m7 m8 x1 x2 (listF s m3 p))
 have h3:=listF_rd s m3 p h2.1
 cases r3 : listF s m3 p with
 |error e => rw [r3] at h3;exact h3
 |ok y3 =>
 rw [r3] at h3
 obtain ⟨x3,p⟩:=y3
 show BodyR s m0 m1 m2 m3 m4 m5 m6 m7 m8 (bB s m0 m4 m6 m7 m8 x1 x2 x3 (listF s m5 p))
 have h5:=listF_rd s m5 p h3.1
 cases r5 : listF s m5 p with
 |error e => rw [r5] at h5;exact h5
 |ok y5 =>
 rw [r5] at h5
 obtain ⟨x5,p⟩:=y5
 show BodyR s m0 m1 m2 m3 m4 m5 m6 m7 m8 (bC s m0 m4 m7 m8 x1 x2 x3 x5 (listF s m6 p))
 have h6:=listF_rd s m6 p h5.1
 cases r6 : listF s m6 p with
 |error e => rw [r6] at h6;exact h6
 |ok y6 =>
 rw [r6] at h6
 obtain ⟨x6,p⟩:=y6
 show BodyR s m0 m1 m2 m3 m4 m5 m6 m7 m8 (bZ s m0 m4 m8 x1 x2 x3 x5 x6 (sizesF' s m7 p))
 have h7:=sizesF_rd s m7 p h6.1
 cases r7 : sizesF' s m7 p with
 |error e => rw [r7] at h7;exact h7
 |ok y7 =>
 rw [r7] at h7
 obtain ⟨x7,p⟩:=y7
 show BodyR s m0 m1 m2 m3 m4 m5 m6 m7 m8 (bJ s m0 m4 m8 x1 x2 x3 x5 x6 (justF s x7 p))
 have hj:=justF_rd s x7 p h7.1
 cases rj : justF s x7 p with
 |error e => rw [rj] at hj;exact hj
 |ok yj =>
 rw [rj] at hj
 obtain ⟨xj,p⟩:=yj
 show BodyR s m0 m1 m2 m3 m4 m5 m6 m7 m8 (bF s m0 m4 x1 x2 x3 x5 x6 xj (listF s m8 p))
 have h8:=listF_rd s m8 p hj.1
 cases r8 : listF s m8 p with
 |error e => rw [r8] at h8;exact h8
 |ok y8 =>
 rw [r8] at h8
 obtain ⟨x8,p⟩:=y8
 show BodyR s m0 m1 m2 m3 m4 m5 m6 m7 m8 (bA m0 x1 x2 x3 x5 x6 xj x8 (andsF s m4 p))
 have h4:=andsF_rd s m4 p h8.1
 cases r4 : andsF s m4 p with
 |error e => rw [r4] at h4;exact h4
 |ok y4 =>
 rw [r4] at h4
 obtain ⟨x4,p⟩:=y4
 exact ⟨h4.1,rfl,h1.2,h2.2,h3.2,h5.2,h6.2,hj.2.trans h7.2,h8.2,h4.2⟩
theorem tailGo_place (s : ByteArray) : ∀ (m p : Nat) (n : Bool) (e : Nat),p ≤ s.size → tailGo s m p n = .error e → e ≤ s.size
 |0,p,n,e,hp,h => by
  unfold tailGo at h
  injection h with h
  omega
 |m + 1,p,n,e,hp,h => by
  unfold tailGo at h
  split at h
  ·cases h
  ·split at h
   ·injection h with h;omega
   ·rename_i l q hq
    have hq:=lineR_place hq
    split at h
    ·cases hr : tailGo s m q true with
     |error e' => rw [hr] at h;injection h with h;subst h;exact tailGo_place s m q true _ hq hr
     |ok z => rw [hr] at h;cases h
    ·split at h
     ·exact tailGo_place s m q true e hq h
     ·split at h
      ·injection h with h;omega
      ·cases hr : tailGo s m q false with
       |error e' => rw [hr] at h;injection h with h;subst h;exact tailGo_place s m q false _ hq hr
       |ok z => rw [hr] at h;cases h
theorem tailF_place {s : ByteArray} {p : Nat} (hp : p ≤ s.size) : 0 ≤ (tailF s p).2.2.1 ∧ (tailF s p).2.2.1 ≤ s.size:=by
 unfold tailF
 split
 ·exact ⟨Int.le_refl _,Int.natCast_nonneg _⟩
 ·split
  ·exact ⟨Int.le_refl _,Int.natCast_nonneg _⟩
  ·cases hr : tailGo s (s.size + 1) ((p : Nat) : Int).toNat false with
   |error e =>
    have:=tailGo_place s _ _ _ e (by rw [Int.toNat_natCast];exact hp) hr
    exact ⟨Int.natCast_nonneg _,Int.ofNat_le.2 this⟩
   |ok z => exact ⟨Int.le_refl _,Int.natCast_nonneg _⟩
def RightR (s : ByteArray) (r : S65 × Int × Int) : Prop :=
 (r.2.2 ≠ 0 ∧ 0 ≤ r.2.1 ∧ r.2.1 ≤ s.size ∧ r.1.f8 = [] ∧ r.1.f0 = 0) ∨
 (r.2.1 = 0 ∧ r.2.2 = 0 ∧ (lookF r.1).2 = 0 ∧ (headF s).1 = aagB ∧ (headF s).2.2.2 = 0 ∧
  r.1.f0 = (headF s).2.1.getD 0 0 ∧ (r.1.f1.length : Int) = (headF s).2.1.getD 1 0 ∧ (r.1.f2.length : Int) = (headF s).2.1.getD 2 0 ∧ (r.1.f3.length : Int) = (headF s).2.1.getD 3 0 ∧ (r.1.f8.length : Int) = (headF s).2.1.getD 4 0 ∧
  (r.1.f4.length : Int) = (headF s).2.1.getD 5 0 ∧ (r.1.f5.length : Int) = (headF s).2.1.getD 6 0 ∧ (r.1.f6.length : Int) = (headF s).2.1.getD 7 0 ∧ (r.1.f7.length : Int) = (headF s).2.1.getD 8 0)
theorem right_law (s : ByteArray) : RightR s (readF s):=by
 unfold readF
 by_cases h1 : (headF s).2.2.2 ≠ 0
 ·rw [if_pos h1]
  exact Or.inl ⟨h1,Int.le_refl _,Int.natCast_nonneg _,rfl,rfl⟩
 rw [if_neg h1]
 by_cases h2 : (headF s).1 ≠ aagB
 ·rw [if_pos h2]
  exact Or.inl ⟨by decide,Int.le_refl _,Int.natCast_nonneg _,rfl,rfl⟩
 rw [if_neg h2]
 have h1 : (headF s).2.2.2 = 0:=by omega
 have h2 : (headF s).1 = aagB:=Decidable.not_not.1 h2
 have hk:=head_ok (s:=s) (word:=(headF s).1) (k:=(headF s).2.1) (e:=(headF s).2.2.1) (by rw [← h1])
 have hB:=bodyN_rd s ((headF s).2.1.getD 0 0).toNat ((headF s).2.1.getD 1 0).toNat ((headF s).2.1.getD 2 0).toNat ((headF s).2.1.getD 3 0).toNat ((headF s).2.1.getD 4 0).toNat ((headF s).2.1.getD 5 0).toNat ((headF s).2.1.getD 6 0).toNat ((headF s).2.1.getD 7 0).toNat ((headF s).2.1.getD 8 0).toNat (headF s).2.2.1.toNat (by have:=hk.place;omega)
 generalize bodyN s ((headF s).2.1.getD 0 0).toNat ((headF s).2.1.getD 1 0).toNat ((headF s).2.1.getD 2 0).toNat ((headF s).2.1.getD 3 0).toNat ((headF s).2.1.getD 4 0).toNat ((headF s).2.1.getD 5 0).toNat ((headF s).2.1.getD 6 0).toNat ((headF s).2.1.getD 7 0).toNat ((headF s).2.1.getD 8 0).toNat (headF s).2.2.1.toNat = B at hB ⊢
 cases B with
 |error e => exact Or.inl ⟨(by decide : (42 : Int) ≠ 0),Int.natCast_nonneg _,Int.ofNat_le.2 hB,rfl,rfl⟩
 |ok y =>
  obtain ⟨c,q⟩:=y
  obtain ⟨hq,e0,e1,e2,e3,e4,e5,e6,e7,e8⟩:=hB
  unfold readBody readEnd
  dsimp only
  have hp:=tailF_place hq
  by_cases h3 : (tailF s q).2.2.2 ≠ 0
  ·rw [if_pos h3]
   exact Or.inl ⟨h3,hp.1,hp.2,rfl,rfl⟩
  rw [if_neg h3]
  by_cases h4 : (lookF { c with f9:=(tailF s q).1,f10:=(tailF s q).2.1 }).2 ≠ 0
  ·rw [if_pos h4]
   exact Or.inl ⟨h4,Int.le_refl _,Int.natCast_nonneg _,rfl,rfl⟩
  rw [if_neg h4]
  have n:=hk.all_
  refine Or.inr ⟨rfl,rfl,Decidable.not_not.1 h4,h2,h1,?_,?_,?_,?_,?_,?_,?_,?_,?_⟩
  ·show c.f0 = _;rw [e0];have:=n 0;omega
  ·show (c.f1.length : Int) = _;rw [e1];have:=n 1;omega
  ·show (c.f2.length : Int) = _;rw [e2];have:=n 2;omega
  ·show (c.f3.length : Int) = _;rw [e3];have:=n 3;omega
  ·show (c.f8.length : Int) = _;rw [e8];have:=n 4;omega
  ·show (c.f4.length : Int) = _;rw [e4];have:=n 5;omega
  ·show (c.f5.length : Int) = _;rw [e5];have:=n 6;omega
  ·show (c.f6.length : Int) = _;rw [e6];have:=n 7;omega
  ·show (c.f7.length : Int) = _;rw [e7];have:=n 8;omega
theorem readF_fits {s : ByteArray} {x : S65} (h : readF s = (x,0,0)) : s.size ≤ 262144 ∧ (∀ r ∈ x.f6,r.length ≤ 16384) ∧ ∀ t ∈ x.f10,t.size ≤ 262144:=by
 unfold readF at h
 by_cases h1 : (headF s).2.2.2 ≠ 0
 ·rw [if_pos h1] at h
  injection h with _ h
  injection h with _ h
  exact absurd h h1
 rw [if_neg h1] at h
 by_cases h2 : (headF s).1 ≠ aagB
 ·rw [if_pos h2] at h
  injection h with _ h
  injection h with _ h
  cases h
 rw [if_neg h2] at h
 have h1 : (headF s).2.2.2 = 0:=by omega
 have hk:=head_ok (s:=s) (word:=(headF s).1) (k:=(headF s).2.1) (e:=(headF s).2.2.1) (by rw [← h1])
 refine ⟨hk.size,?_⟩
 cases hB : bodyN s ((headF s).2.1.getD 0 0).toNat ((headF s).2.1.getD 1 0).toNat ((headF s).2.1.getD 2 0).toNat ((headF s).2.1.getD 3 0).toNat ((headF s).2.1.getD 4 0).toNat ((headF s).2.1.getD 5 0).toNat ((headF s).2.1.getD 6 0).toNat ((headF s).2.1.getD 7 0).toNat ((headF s).2.1.getD 8 0).toNat (headF s).2.2.1.toNat with
 |error e =>
  rw [hB] at h
  injection h with _ h
  injection h with _ h
  cases h
 |ok y =>
  obtain ⟨c,q⟩:=y
  rw [hB] at h
  have hj:=bodyN_just hB
  unfold readBody readEnd at h
  dsimp only at h
  by_cases h3 : (tailF s q).2.2.2 ≠ 0
  ·rw [if_pos h3] at h
   injection h with _ h
   injection h with _ h
   exact absurd h h3
  rw [if_neg h3] at h
  by_cases h4 : (lookF { c with f9:=(tailF s q).1,f10:=(tailF s q).2.1 }).2 ≠ 0
  ·rw [if_pos h4] at h
   injection h with _ h
   injection h with _ h
   exact absurd h h4
  rw [if_neg h4] at h
  injection h with h _
  subst h
  exact ⟨hj,tailF_size s q hk.size⟩
end Go.Proofs.YtdmngdohlobogaaGreatDoor.Asc
end
section
namespace Go.Proofs.YtdmngdohlobogaaGreatDoor.Asc
open Go Go.RowKit Go.Proofs.YtdmngdohlobogaaGreatDoorW.PrintWords Go.Proofs.YtdmngdohlobogaaGreatDoorW.PrintLast Go.Proofs.YtdmngdohlobogaaGreatDoorW.PrintMore
set_option linter.unusedVariables false
set_option linter.unusedSimpArgs false
set_option maxHeartbeats 1000000 in
set_option maxRecDepth 100000 in
theorem eq62 {w : World} {A B : Option Addr} {n m : Nat} {l : List (List Int)} (hn : l.length ≤ 9223372036854775806) (hl : ∀ r ∈ l,r.length ≤ 9223372036854775806) (hA : (Kd.slice 3 (Kd.int .i64)).C w A l.length l) (hB : (Kd.slice 3 (Kd.int .i64)).C w B l.length l) :
  Calls Tryz.prog 43 #[.slice A l.length n,.slice B l.length m,.func (.func 44) #[] #[]] w fun e w' => e = .returned (.bool true) ∧ Drawn0 w w':=by
 have HN:=A0_.mk hn
 have HL:=A0_.mk hl
 have HA:=A0_.mk hA
 have HB:=A0_.mk hB
 clear hA hB hn hl
 go_enter Tryz.func43,Tryz.ntmps43
 go_wp2
 (try simp only [Act.put,sA_,sB_,sC_])
 go_loopg [17] (l.length + 1) (fun kq v17 w' => ∃ x : Int,v17 = .int .i64 x ∧ A0_ (x + (kq : Int) = (l.length : Int) + 1) ∧ A0_ (0 ≤ x ∧ x ≤ (l.length : Int) ∧ l.length ≤ 9223372036854775806) ∧ Drawn0 w w')
 case atStart => exact ⟨0,rfl,⟨by push_cast;omega⟩,⟨by have:=HN.out;omega⟩,Drawn0.refl _⟩
 case round =>
  obtain ⟨x,rfl,HK,HKN,⟨m1,rfl⟩⟩:=hrel
  by_cases ck : x < (l.length : Int)
  ·obtain ⟨g1,rfl⟩ : ∃ g1,gk = g1 + 1:=by
    cases gk with
    |zero => have:=HK.out;omega
    |succ g1 => exact ⟨g1,rfl⟩
   have p1 : 0 ≤ x:=HKN.out.1
   have q1 : x < (l.length : Int):=ck
   obtain ⟨ad1,A0,c0,e1,h1,h11,h12⟩:=at_L2 HA.out x p1 q1
   cases e1
   obtain ⟨ad2,B0,d0,e2,h2,h21,h22⟩:=at_L2 HB.out x p1 q1
   cases e2
   have HW:=A0_.mk (show wrap64 (x + 1) = x + 1 from IntWalk.wrap64_in _ (by have:=HKN.out;omega))
   have ckb : decide (x < (l.length : Int)) = true:=decide_eq_true q1
   have ckc : decide (0 ≤ x) = true:=decide_eq_true p1
   have HRL:=A0_.mk (show (rd_L2 l x).length ≤ 9223372036854775806 from HL.out _ (by
    have e : rd_L2 l x = l[x.toNat]'(by omega):=by unfold rd_L2;simp [List.getD_eq_getElem?_getD,List.getElem?_eq_getElem (show x.toNat < l.length by omega)]
    rw [e]
    exact List.getElem_mem _))
   replace p1:=eq_true p1
   replace q1:=eq_true q1
   clear ck
   go_wp2_with (go_at_call 44;(refine (eq63 HRL.out (Kd.C_drewN h12 m1) (Kd.C_drewN h22 m1)).mono ?_;rintro e w' ⟨rfl,⟨nd,rfl⟩⟩))
   go_roundg g1
   case measure => omega
   case rel => exact ⟨wrap64 (x + 1),rfl,⟨by rw [HW.out];have:=HK.out;push_cast at this;omega⟩,⟨by rw [HW.out];have:=HKN.out;have:=of_decide_eq_true ckb;omega⟩,by repeat (first|exact Drawn0.refl _|apply Drawn0.step)⟩
  ·have ckb : decide (x < (l.length : Int)) = false:=decide_eq_false ck
   clear ck
   go_wp2
   repeat (go_quiet (fail);try go_wp2)
   go_ret
   exact ⟨by simp,by repeat (first|exact Drawn0.refl _|apply Drawn0.step)⟩
set_option maxHeartbeats 4000000 in
set_option maxRecDepth 100000 in
theorem same_calls {w : World} {y0 : Int} {y1 : List Int} {y2 : List S108} {y3 y4 y5 : List Int} {y6 : List (List Int)} {y7 : List Int} {y8 : List S125} {y9 : List S59} {y10 : List ByteArray} {A1 A2 A3 A4 A5 A6 A7 A8 A9 A10 B1 B2 B3 B4 B5 B6 B7 B8 B9 B10 : Option Addr} {n1 n2 n3 n4 n5 n6 n7 n8 n9 n10 m1 m2 m3 m4 m5 m6 m7 m8 m9 m10 : Nat}
  (hA : CR w ⟨y0,y1,y2,y3,y4,y5,y6,y7,y8,y9,y10⟩ ⟨A1,A2,A3,A4,A5,A6,A7,A8,A9,A10,n1,n2,n3,n4,n5,n6,n7,n8,n9,n10⟩) (hB : CR w ⟨y0,y1,y2,y3,y4,y5,y6,y7,y8,y9,y10⟩ ⟨B1,B2,B3,B4,B5,B6,B7,B8,B9,B10,m1,m2,m3,m4,m5,m6,m7,m8,m9,m10⟩)
  (hl : y1.length ≤ 9223372036854775806 ∧ y2.length ≤ 9223372036854775806 ∧ y3.length ≤ 9223372036854775806 ∧ y4.length ≤ 9223372036854775806 ∧ y5.length ≤ 9223372036854775806 ∧ y6.length ≤ 9223372036854775806 ∧ y7.length ≤ 9223372036854775806 ∧ y8.length ≤ 9223372036854775806 ∧ y9.length ≤ 9223372036854775806 ∧ y10.length ≤ 9223372036854775806) (hj : ∀ r ∈ y6,r.length ≤ 9223372036854775806) :
  Calls Tryz.prog 16 #[.agg #[.int .i64 y0,.slice A1 y1.length n1,.slice A2 y2.length n2,.slice A3 y3.length n3,.slice A4 y4.length n4,.slice A5 y5.length n5,.slice A6 y6.length n6,.slice A7 y7.length n7,.slice A8 y8.length n8,.slice A9 y9.length n9,.slice A10 y10.length n10],.agg #[.int .i64 y0,.slice B1 y1.length m1,.slice B2 y2.length m2,.slice B3 y3.length m3,.slice B4 y4.length m4,.slice B5 y5.length m5,.slice B6 y6.length m6,.slice B7 y7.length m7,.slice B8 y8.length m8,.slice B9 y9.length m9,.slice B10 y10.length m10]] w fun e w' => e = .returned (.bool true) ∧ Below w.heap.size w w':=by
 obtain ⟨l1,l2,l3,l4,l5,l6,l7,l8,l9,l10⟩:=hl
 have HL1:=A0_.mk l1
 have HL2:=A0_.mk l2
 have HL3:=A0_.mk l3
 have HL4:=A0_.mk l4
 have HL5:=A0_.mk l5
 have HL6:=A0_.mk l6
 have HL7:=A0_.mk l7
 have HL8:=A0_.mk l8
 have HL9:=A0_.mk l9
 have HL10:=A0_.mk l10
 have HJ:=A0_.mk hj
 have HB0:=A0_.mk (show Below w.heap.size w ((w.alloc (.cells #[.int .i64 y0,.slice A1 y1.length n1,.slice A2 y2.length n2,.slice A3 y3.length n3,.slice A4 y4.length n4,.slice A5 y5.length n5,.slice A6 y6.length n6,.slice A7 y7.length n7,.slice A8 y8.length n8,.slice A9 y9.length n9,.slice A10 y10.length n10] 29)).alloc (.cells #[.int .i64 y0,.slice B1 y1.length m1,.slice B2 y2.length m2,.slice B3 y3.length m3,.slice B4 y4.length m4,.slice B5 y5.length m5,.slice B6 y6.length m6,.slice B7 y7.length m7,.slice B8 y8.length m8,.slice B9 y9.length m9,.slice B10 y10.length m10] 29)) from eA_ (eA_ (Below.refl _ _) _) _)
 have HA1:=A0_.mk (Kd.C_below hA.r1 HB0.out)
 have HB1:=A0_.mk (Kd.C_below hB.r1 HB0.out)
 have HA2:=A0_.mk (Kd.C_below hA.r2 HB0.out)
 have HB2:=A0_.mk (Kd.C_below hB.r2 HB0.out)
 have HA3:=A0_.mk (Kd.C_below hA.r3 HB0.out)
 have HB3:=A0_.mk (Kd.C_below hB.r3 HB0.out)
 have HA4:=A0_.mk (Kd.C_below hA.r4 HB0.out)
 have HB4:=A0_.mk (Kd.C_below hB.r4 HB0.out)
 have HA5:=A0_.mk (Kd.C_below hA.r5 HB0.out)
 have HB5:=A0_.mk (Kd.C_below hB.r5 HB0.out)
 have HA6:=A0_.mk (Kd.C_below hA.r6 HB0.out)
 have HB6:=A0_.mk (Kd.C_below hB.r6 HB0.out)
 have HA7:=A0_.mk (Kd.C_below hA.r7 HB0.out)
 have HB7:=A0_.mk (Kd.C_below hB.r7 HB0.out)
 have HA8:=A0_.mk (Kd.C_below hA.r8 HB0.out)
 have HB8:=A0_.mk (Kd.C_below hB.r8 HB0.out)
 have HA9:=A0_.mk (Kd.C_below hA.r9 HB0.out)
 have HB9:=A0_.mk (Kd.C_below hB.r9 HB0.out)
 have HA10:=A0_.mk (Kd.C_below hA.r10 HB0.out)
 have HB10:=A0_.mk (Kd.C_below hB.r10 HB0.out)
 clear l1 l2 l3 l4 l5 l6 l7 l8 l9 l10 hj hA hB
 go_enter Tryz.func16,Tryz.ntmps16
 go_upto_region 1 with (fail)
 have hc:=bA_ (blk_new w (.cells #[.int .i64 y0,.slice A1 y1.length n1,.slice A2 y2.length n2,.slice A3 y3.length n3,.slice A4 y4.length n4,.slice A5 y5.length n5,.slice A6 y6.length n6,.slice A7 y7.length n7,.slice A8 y8.length n8,.slice A9 y9.length n9,.slice A10 y10.length n10] 29)) (.cells #[.int .i64 y0,.slice B1 y1.length m1,.slice B2 y2.length m2,.slice B3 y3.length m3,.slice B4 y4.length m4,.slice B5 y5.length m5,.slice B6 y6.length m6,.slice B7 y7.length m7,.slice B8 y8.length m8,.slice B9 y9.length m9,.slice B10 y10.length m10] 29)
 have hd:=blk_new (w.alloc (.cells #[.int .i64 y0,.slice A1 y1.length n1,.slice A2 y2.length n2,.slice A3 y3.length n3,.slice A4 y4.length n4,.slice A5 y5.length n5,.slice A6 y6.length n6,.slice A7 y7.length n7,.slice A8 y8.length n8,.slice A9 y9.length n9,.slice A10 y10.length n10] 29)) (.cells #[.int .i64 y0,.slice B1 y1.length m1,.slice B2 y2.length m2,.slice B3 y3.length m3,.slice B4 y4.length m4,.slice B5 y5.length m5,.slice B6 y6.length m6,.slice B7 y7.length m7,.slice B8 y8.length m8,.slice B9 y9.length m9,.slice B10 y10.length m10] 29)
 simp only [World.size_alloc] at hd
 generalize (w.alloc (.cells #[.int .i64 y0,.slice A1 y1.length n1,.slice A2 y2.length n2,.slice A3 y3.length n3,.slice A4 y4.length n4,.slice A5 y5.length n5,.slice A6 y6.length n6,.slice A7 y7.length n7,.slice A8 y8.length n8,.slice A9 y9.length n9,.slice A10 y10.length n10] 29)).alloc (.cells #[.int .i64 y0,.slice B1 y1.length m1,.slice B2 y2.length m2,.slice B3 y3.length m3,.slice B4 y4.length m4,.slice B5 y5.length m5,.slice B6 y6.length m6,.slice B7 y7.length m7,.slice B8 y8.length m8,.slice B9 y9.length m9,.slice B10 y10.length m10] 29) = w2 at hc hd HA1 HB1 HA2 HB2 HA3 HB3 HA4 HB4 HA5 HB5 HA6 HB6 HA7 HB7 HA8 HB8 HA9 HB9 HA10 HB10 HB0 ⊢
 generalize hgs : w.heap.size = g at hc hd HB0 ⊢
 have HB:=A0_.mk HB0.out
 clear HB0
 have c0 : w2.cell? ⟨g,0,none⟩ = some (.int .i64 y0):=bC_ hc 0
 have c1 : w2.cell? ⟨g,1,none⟩ = some (.slice A1 y1.length n1):=bC_ hc 1
 have c2 : w2.cell? ⟨g,2,none⟩ = some (.slice A2 y2.length n2):=bC_ hc 2
 have c3 : w2.cell? ⟨g,3,none⟩ = some (.slice A3 y3.length n3):=bC_ hc 3
 have c4 : w2.cell? ⟨g,4,none⟩ = some (.slice A4 y4.length n4):=bC_ hc 4
 have c5 : w2.cell? ⟨g,5,none⟩ = some (.slice A5 y5.length n5):=bC_ hc 5
 have c6 : w2.cell? ⟨g,6,none⟩ = some (.slice A6 y6.length n6):=bC_ hc 6
 have c7 : w2.cell? ⟨g,7,none⟩ = some (.slice A7 y7.length n7):=bC_ hc 7
 have c8 : w2.cell? ⟨g,8,none⟩ = some (.slice A8 y8.length n8):=bC_ hc 8
 have c9 : w2.cell? ⟨g,9,none⟩ = some (.slice A9 y9.length n9):=bC_ hc 9
 have c10 : w2.cell? ⟨g,10,none⟩ = some (.slice A10 y10.length n10):=bC_ hc 10
 have d0 : w2.cell? ⟨g + 1,0,none⟩ = some (.int .i64 y0):=bC_ hd 0
 have d1 : w2.cell? ⟨g + 1,1,none⟩ = some (.slice B1 y1.length m1):=bC_ hd 1
 have d2 : w2.cell? ⟨g + 1,2,none⟩ = some (.slice B2 y2.length m2):=bC_ hd 2
 have d3 : w2.cell? ⟨g + 1,3,none⟩ = some (.slice B3 y3.length m3):=bC_ hd 3
 have d4 : w2.cell? ⟨g + 1,4,none⟩ = some (.slice B4 y4.length m4):=bC_ hd 4
 have d5 : w2.cell? ⟨g + 1,5,none⟩ = some (.slice B5 y5.length m5):=bC_ hd 5
 have d6 : w2.cell? ⟨g + 1,6,none⟩ = some (.slice B6 y6.length m6):=bC_ hd 6
 have d7 : w2.cell? ⟨g + 1,7,none⟩ = some (.slice B7 y7.length m7):=bC_ hd 7
 have d8 : w2.cell? ⟨g + 1,8,none⟩ = some (.slice B8 y8.length m8):=bC_ hd 8
 have d9 : w2.cell? ⟨g + 1,9,none⟩ = some (.slice B9 y9.length m9):=bC_ hd 9
 have d10 : w2.cell? ⟨g + 1,10,none⟩ = some (.slice B10 y10.length m10):=bC_ hd 10
 clear hc hd
 go_wp2_with (first|(go_at_call_of 44 (Value.slice A1 y1.length n1);refine (eq63 HL1.out (by (with_reducible repeat (first|apply Kd.C_drewN|apply Kd.C_drew));exact HA1.out) (by (with_reducible repeat (first|apply Kd.C_drewN|apply Kd.C_drew));exact HB1.out)).mono ?_;rintro e w' ⟨rfl,⟨nd1,rfl⟩⟩)|(go_at_call_of 45 (Value.slice A2 y2.length n2);refine (eq64 HL2.out (by (with_reducible repeat (first|apply Kd.C_drewN|apply Kd.C_drew));exact HA2.out) (by (with_reducible repeat (first|apply Kd.C_drewN|apply Kd.C_drew));exact HB2.out)).mono ?_;rintro e w' ⟨rfl,⟨nd2,rfl⟩⟩)|(go_at_call_of 44 (Value.slice A3 y3.length n3);refine (eq63 HL3.out (by (with_reducible repeat (first|apply Kd.C_drewN|apply Kd.C_drew));exact HA3.out) (by (with_reducible repeat (first|apply Kd.C_drewN|apply Kd.C_drew));exact HB3.out)).mono ?_;rintro e w' ⟨rfl,⟨nd3,rfl⟩⟩)|(go_at_call_of 44 (Value.slice A4 y4.length n4);refine (eq63 HL4.out (by (with_reducible repeat (first|apply Kd.C_drewN|apply Kd.C_drew));exact HA4.out) (by (with_reducible repeat (first|apply Kd.C_drewN|apply Kd.C_drew));exact HB4.out)).mono ?_;rintro e w' ⟨rfl,⟨nd4,rfl⟩⟩)|(go_at_call_of 44 (Value.slice A5 y5.length n5);refine (eq63 HL5.out (by (with_reducible repeat (first|apply Kd.C_drewN|apply Kd.C_drew));exact HA5.out) (by (with_reducible repeat (first|apply Kd.C_drewN|apply Kd.C_drew));exact HB5.out)).mono ?_;rintro e w' ⟨rfl,⟨nd5,rfl⟩⟩)|(go_at_call_of 43 (Value.slice A6 y6.length n6);refine (eq62 HL6.out HJ.out (by (with_reducible repeat (first|apply Kd.C_drewN|apply Kd.C_drew));exact HA6.out) (by (with_reducible repeat (first|apply Kd.C_drewN|apply Kd.C_drew));exact HB6.out)).mono ?_;rintro e w' ⟨rfl,⟨nd6,rfl⟩⟩)|(go_at_call_of 44 (Value.slice A7 y7.length n7);refine (eq63 HL7.out (by (with_reducible repeat (first|apply Kd.C_drewN|apply Kd.C_drew));exact HA7.out) (by (with_reducible repeat (first|apply Kd.C_drewN|apply Kd.C_drew));exact HB7.out)).mono ?_;rintro e w' ⟨rfl,⟨nd7,rfl⟩⟩)|(go_at_call_of 46 (Value.slice A8 y8.length n8);refine (eq65 HL8.out (by (with_reducible repeat (first|apply Kd.C_drewN|apply Kd.C_drew));exact HA8.out) (by (with_reducible repeat (first|apply Kd.C_drewN|apply Kd.C_drew));exact HB8.out)).mono ?_;rintro e w' ⟨rfl,⟨nd8,rfl⟩⟩)|(go_at_call_of 47 (Value.slice A9 y9.length n9);refine (eq66 HL9.out (by (with_reducible repeat (first|apply Kd.C_drewN|apply Kd.C_drew));exact HA9.out) (by (with_reducible repeat (first|apply Kd.C_drewN|apply Kd.C_drew));exact HB9.out)).mono ?_;rintro e w' ⟨rfl,⟨nd9,rfl⟩⟩)|(go_at_call_of 48 (Value.slice A10 y10.length n10);refine (eq67 HL10.out (by (with_reducible repeat (first|apply Kd.C_drewN|apply Kd.C_drew));exact HA10.out) (by (with_reducible repeat (first|apply Kd.C_drewN|apply Kd.C_drew));exact HB10.out)).mono ?_;rintro e w' ⟨rfl,⟨nd10,rfl⟩⟩))
 go_ret
 subst hgs
 exact ⟨by simp,by (with_reducible repeat (first|apply eN_|apply eD_));exact HB.out⟩
end Go.Proofs.YtdmngdohlobogaaGreatDoor.Asc
end
section
namespace Go.Proofs.YtdmngdohlobogaaGreatDoor.Asc
open Go Go.RowKit Go.Proofs.YtdmngdohlobogaaGreatDoorW.PrintWords
set_option linter.unusedVariables false
def digN : List UInt8 → Nat
 |[] => 0
 |c :: l => if 48 ≤ c.toNat ∧ c.toNat ≤ 57 then digN l + 1 else 0
def numW (s : ByteArray) (k : Nat) : Option (Int × Nat) :=
 match Lib.parseUintB 31 (s.extract k (k + digN (s.data.toList.drop k))).data.toList with
 |.ok u => if bt s (k : Int) = 48 ∧ 1 < digN (s.data.toList.drop k) then none else some ((u : Int),k + digN (s.data.toList.drop k))
 |_ => none
theorem digN_le : ∀ l : List UInt8,digN l ≤ l.length
 |[] => Nat.le_refl _
 |c :: l => by
  have:=digN_le l
  unfold digN
  split
  ·simp only [List.length_cons];omega
  ·omega
theorem numW_le {s : ByteArray} {k : Nat} {n : Int} {e : Nat} (hk : k ≤ s.size) (h : numW s k = some (n,e)) : k < e ∧ e ≤ s.size:=by
 unfold numW at h
 split at h
 ·rename_i u hu
  split at h
  ·cases h
  ·injection h with h
   injection h with h1 h2
   have h3:=digN_le (s.data.toList.drop k)
   rw [List.length_drop,data_length] at h3
   have h4 : digN (s.data.toList.drop k) ≠ 0:=by
    intro h0
    rw [h0,Nat.add_zero] at hu
    have e0 : (s.extract k k).data.toList = []:=by rw [Stim.extract_list,Nat.sub_self,List.take_zero]
    rw [e0] at hu
    exact absurd hu (by simp [Lib.parseUintB])
   omega
 ·cases h
def numsB (l : ByteArray) (most : Nat) : Nat → Nat → List Int → Option (List Int)
 |0,_,_ => none
 |f + 1,k,out => match numW l k with
  |none => none
  |some (n,e) => if e < l.size ∧ l.data.toList[e]? ≠ some 32 then none else if out.length = most then none else if e = l.size then some (out ++ [n]) else numsB l most f (e + 1) (out ++ [n])
def rowB (s : ByteArray) (p least most : Nat) : Option (List Int × Nat) :=
 (lineF s p).bind fun q => (numsB q.1 most (q.1.size + 2) 0 []).bind fun ns => if ns.length < least then none else some (ns,q.2)
def listB (s : ByteArray) : Nat → Nat → Except Nat (List Int × Nat)
 |0,p => .ok ([],p)
 |n + 1,p => match rowB s p 1 1 with
  |none => .error p
  |some (x,q) => match listB s n q with
   |.error e => .error e
   |.ok (l,r) => .ok (x.getD 0 0 :: l,r)
def latchB (at_ : Nat) (x : List Int) : S108:=⟨2 * ((at_ : Int) + 1),x.getD 0 0,x.getD 1 0⟩
def latchesB (s : ByteArray) : Nat → Nat → Nat → Except Nat (List S108 × Nat)
 |_,0,p => .ok ([],p)
 |a,n + 1,p => match rowB s p 1 2 with
  |none => .error p
  |some (x,q) => match latchesB s (a + 1) n q with
   |.error e => .error e
   |.ok (l,r) => .ok (latchB a x :: l,r)
def sizesB (s : ByteArray) : Nat → Nat → Except Nat (List Int × Nat)
 |0,p => .ok ([],p)
 |n + 1,p => match rowB s p 1 1 with
  |none => .error p
  |some (x,q) => if 16384 < x.getD 0 0 then .error p else match sizesB s n q with
   |.error e => .error e
   |.ok (l,r) => .ok (x.getD 0 0 :: l,r)
def justB (s : ByteArray) : List Int → Nat → Except Nat (List (List Int) × Nat)
 |[],p => .ok ([],p)
 |k :: ks,p => match listB s k.toNat p with
  |.error e => .error e
  |.ok (x,q) => match justB s ks q with
   |.error e => .error e
   |.ok (l,r) => .ok (x :: l,r)
end Go.Proofs.YtdmngdohlobogaaGreatDoor.Asc
end
