import Derived.Test.YtdmngdohlobogaaGreatDoorYM16
namespace Go.Proofs.YtdmngdohlobogaaGreatDoor.Asc
open Go Go.RowKit Go.Proofs.YtdmngdohlobogaaGreatDoorW.PrintWords Go.Proofs.YtdmngdohlobogaaGreatDoorW.PrintLast Go.Proofs.YtdmngdohlobogaaGreatDoorW.PrintMore
set_option linter.unusedVariables false
set_option linter.unusedSimpArgs false
theorem C_ints {w : World} {k : IntKind} {g : Nat} {t : TypeId} {xs : List Int} (h : w.heap[g]? = some (.cells (xs.map (Value.int k)).toArray t (0,0))) (hl : xs.length ≤ 9223372036854775807) : Kd.C (Kd.int k) w (some ⟨g,0,none⟩) xs.length xs:=by
 refine ⟨rfl,hl,fun _ => ⟨_,rfl,fun j p hj => ⟨[Value.int k p],rfl,rfl,fun i u hu => ?_⟩⟩⟩
 cases i with
 |zero =>
  simp only [List.getElem?_cons_zero,Option.some.injEq] at hu
  subst hu
  have hc:=bC_ h j
  have e : (xs.map (Value.int k)).toArray[j]? = some (Value.int k p):=by simp [hj]
  rw [e] at hc
  have ea : (⟨g,0,none⟩ : Addr).add (j * 1 + 0) = ⟨g,j,none⟩:=by rw [Nat.mul_one,Nat.add_zero];cases j <;> simp [Addr.add]
  show w.cell? ((⟨g,0,none⟩ : Addr).add (j * 1 + 0)) = _
  rw [ea]
  exact hc
 |succ i => simp at hu
theorem at_J {w : World} {A : Option Addr} {xs : List (List Int)} (h : Kd.C (Kd.slice 3 (Kd.int .i64)) w A xs.length xs) (n : Nat) (hn : n < xs.length) : ∃ ad A0 c0,A = some ad ∧ w.cell? (ad.add n) = some (.slice A0 xs[n].length c0) ∧ xs[n].length ≤ c0 ∧ Kd.C (Kd.int .i64) w A0 xs[n].length xs[n]:=by
 obtain ⟨ad,c,e,_,hK,hc0⟩:=Kd.C_get h [] (n : Int) (by omega) (by omega)
 have hc : ∀ j u,c[j]? = some u → w.cell? (ad.add (n * 1 + j)) = some u:=hc0
 obtain ⟨A0,c0,rfl,hl,hr⟩:=hK
 have hq:=hc 0 _ rfl
 rw [Nat.mul_one,Nat.add_zero] at hq
 have e2 : xs.getD ((n : Int)).toNat [] = xs[n]:=by simp [hn]
 rw [e2] at hq hl hr
 exact ⟨ad,A0,c0,e,hq,hl,hr⟩
theorem use_callsN {g b : Nat} {c : S65} {a : CA} {by_ : List S40} {A : Option Addr} {cp m : Nat} {l : List Int} {w : World} (hm : l.length = m) (hL : LK w g b c a by_) (hC : Kd.C (Kd.int .i64) w A l.length l) (hl : l.length ≤ 140737488355328) (hm0 : 0 ≤ c.f0) (hm1 : c.f0 ≤ 16384) (hn : (by_.length : Int) = c.f0 + 1) :
  Calls Tryz.prog 112 #[.pointer (some ⟨g,0,none⟩),.slice A m cp] w fun e w' => e = .returned (.int .i64 (useF c.f0 by_ l)) ∧ w' = w:=by
 subst hm
 exact use_calls hL hC hl hm0 hm1 hn
def firstBad {α : Type} (f : α → Int) : List α → Nat → Int × Int
 |[],_ => (0,0)
 |x :: xs,i => if f x = 0 then firstBad f xs (i + 1) else ((i : Int),f x)
def thenU (D E : Int × Int) : Int × Int:=if D.2 = 0 then E else D
def use1 (mx : Int) (by_ : List S40) (x : Int) : Int:=useF mx by_ [x]
def usesAnds (c : S65) (by_ : List S40) : Int × Int:=firstBad (fun x : S125 => useF c.f0 by_ [x.f1,x.f2]) c.f8 0
def usesFair (c : S65) (by_ : List S40) : Int × Int:=thenU (firstBad (use1 c.f0 by_) c.f7 0) (usesAnds c by_)
def usesJust (c : S65) (by_ : List S40) : Int × Int:=thenU (firstBad (useF c.f0 by_) c.f6 0) (usesFair c by_)
def usesCons (c : S65) (by_ : List S40) : Int × Int:=thenU (firstBad (use1 c.f0 by_) c.f5 0) (usesJust c by_)
def usesBads (c : S65) (by_ : List S40) : Int × Int:=thenU (firstBad (use1 c.f0 by_) c.f4 0) (usesCons c by_)
def usesOuts (c : S65) (by_ : List S40) : Int × Int:=thenU (firstBad (use1 c.f0 by_) c.f3 0) (usesBads c by_)
def usesF (c : S65) (by_ : List S40) : Int × Int:=thenU (firstBad (fun x : S108 => use1 c.f0 by_ x.f1) c.f2 0) (usesOuts c by_)
structure Short (c : S65) : Prop where
 l1 : c.f1.length ≤ 16384
 l2 : c.f2.length ≤ 16384
 l3 : c.f3.length ≤ 16384
 l4 : c.f4.length ≤ 16384
 l5 : c.f5.length ≤ 16384
 l6 : c.f6.length ≤ 16384
 l7 : c.f7.length ≤ 16384
 l8 : c.f8.length ≤ 16384
 l9 : c.f9.length ≤ 16384
 l10 : c.f10.length ≤ 16384
 m0 : 0 ≤ c.f0
 m1 : c.f0 ≤ 16384
 j6 : ∀ r ∈ c.f6,r.length ≤ 16384
set_option maxHeartbeats 8000000 in
set_option maxRecDepth 100000 in
theorem uses_calls {g b : Nat} {c : S65} {a : CA} {by_ : List S40} {w : World} (hL : LK w g b c a by_) (hC : CR w c a) (hS : Short c) (hn : (by_.length : Int) = c.f0 + 1) :
  Calls Tryz.prog 86 #[.pointer (some ⟨g,0,none⟩)] w fun e w' => e = .returned (.tuple #[.int .i64 (usesF c by_).1,.int .i64 (usesF c by_).2]) ∧ Below w.heap.size w w':=by
 obtain ⟨A1,A2,A3,A4,A5,A6,A7,A8,A9,A10,c1,c2,c3,c4,c5,c6,c7,c8,c9,c10⟩:=a
 have hu150:=Tryz.underlying127
 have hu65:=Tryz.underlying29
 have hu169:=Tryz.underlying154
 have hu108:=Tryz.underlying61
 have hu125:=Tryz.underlying75
 have f2 : w.cell? ⟨g,2,none⟩ = some (.slice A2 c.f2.length c2):=(hL.cell 2).trans rfl
 obtain ⟨r1,r2,hR⟩ : ∃ r1 r2,usesF c by_ = (r1,r2):=⟨_,_,rfl⟩
 rw [hR]
 unfold usesF at hR
 have HL:=A0_.mk hL
 have HC:=A0_.mk hC
 have HS:=A0_.mk hS
 have HN:=A0_.mk hn
 have HR:=A0_.mk hR
 have HB : A0_ (Below w.heap.size w w):=⟨Below.refl _ _⟩
 clear hL hC hS hn hR
 go_enter Tryz.func86,Tryz.ntmps86
 go_wp2
 repeat (go_quiet (fail);try go_wp2)
 (try simp only [Act.put,sA_,sB_,sC_])
 go_loopg [27] (c.f2.length + 1) (fun kq v w' => ∃ (n : Nat),v = .int .i64 n ∧ A0_ (n + kq = c.f2.length + 1) ∧ A0_ (n ≤ c.f2.length) ∧ A0_ (thenU (firstBad (fun x : S108 => use1 c.f0 by_ x.f1) (c.f2.drop n) n) (usesOuts c by_) = (r1,r2)) ∧ A0_ (Below w.heap.size w w'))
 case atStart => exact ⟨0,rfl,⟨by omega⟩,⟨Nat.zero_le _⟩,⟨by rw [List.drop_zero];exact HR.out⟩,⟨HB.out⟩⟩
 case round =>
  clear HR HB
  obtain ⟨n,rfl,HK,HNL,HR,HB⟩:=hrel
  cases gk with
  |zero =>
   have h1:=HK.out
   have h2:=HNL.out
   omega
  |succ k1 =>
   by_cases cn : n < c.f2.length
   ·have cnb : decide ((n : Int) < (c.f2.length : Int)) = true:=decide_eq_true (by omega)
    have p0 : (0 ≤ (n : Int)) = True:=eq_true (by omega)
    have p1 : ((n : Int) < (c.f2.length : Int)) = True:=eq_true (by omega)
    have hw1 : IntKind.i64.wrap ((n : Int) + 1) = ((n + 1 : Nat) : Int):=by have:=HS.out.l2;rw [IntKind.wrap_i64];omega
    obtain ⟨ad,ea,hx0,hx1,hx2⟩:=C_latch_get (HC.out.below HB.out).r2 n cn
    cases ea
    have hdrop : c.f2.drop n = c.f2[n] :: c.f2.drop (n + 1):=List.drop_eq_getElem_cons cn
    have hr:=HR.out
    rw [hdrop,firstBad] at hr
    clear HR hdrop
    generalize c.f2[n] = x at hr hx0 hx1 hx2 ⊢
    obtain ⟨x0,x1,x2⟩:=x
    dsimp only at hr hx0 hx1 hx2
    have HB1 : A0_ (Below w.heap.size w ((wr.alloc (.cells #[.int .i64 x0,.int .i64 x1,.int .i64 x2] 61)).alloc (.cells #[.int .i64 x1] 3))):=⟨eA_ (eA_ HB.out _) _⟩
    have HX1 : A0_ (Kd.C (Kd.int .i64) ((wr.alloc (.cells #[.int .i64 x0,.int .i64 x1,.int .i64 x2] 61)).alloc (.cells #[.int .i64 x1] 3)) (some ⟨(wr.heap.size + 1),0,none⟩) [x1].length [x1]):=⟨C_ints (t:=3) (xs:=[x1]) (by have:=blk_new ((wr.alloc (.cells #[.int .i64 x0,.int .i64 x1,.int .i64 x2] 61))) (.cells #[.int .i64 x1] 3);simpa using this) (by simp)⟩
    by_cases ce : use1 c.f0 by_ x1 = 0
    ·rw [if_pos ce] at hr
     have ceb : (useF c.f0 by_ [x1] == 0) = true:=beq_iff_eq.mpr ce
     have HR:=A0_.mk hr
     clear hr ce
     go_wp2_with (first|((with_reducible refine gate_callee (f:=112) rfl ?_);refine goesL_ (some 36) rfl rfl Tryz.func112 (by kernel_rfl) rfl #[.pointer (some ⟨g,0,none⟩),.slice (some ⟨(wr.heap.size + 1),0,none⟩) 1 1] rfl (by (try simp only [List.map_toArray,List.map_cons,List.map_nil]);first|done|rfl) ?_;(with_reducible refine (use_callsN (m:=1) (l:=[x1]) rfl (HL.out.below HB1.out) HX1.out (by simp) HS.out.m0 HS.out.m1 HN.out).mono ?_);rintro e w2 ⟨rfl,rfl⟩;refine ⟨_,rfl,?_⟩)|go_in)
     repeat (go_quiet (fail);try go_wp2)
     go_roundg k1
     case measure => omega
     case rel => exact ⟨n + 1,rfl,⟨by have:=HK.out;omega⟩,⟨by omega⟩,HR,HB1⟩
    ·rw [if_neg ce] at hr
     have ceb : (useF c.f0 by_ [x1] == 0) = false:=beq_eq_false_iff_ne.mpr ce
     unfold thenU at hr
     rw [if_neg ce] at hr
     simp only [Prod.mk.injEq] at hr
     obtain ⟨rfl,rfl⟩:=hr
     have ce2 : ¬ (useF c.f0 by_ [x1] = 0):=ce
     clear ce
     go_wp2_with (first|((with_reducible refine gate_callee (f:=112) rfl ?_);refine goesL_ (some 36) rfl rfl Tryz.func112 (by kernel_rfl) rfl #[.pointer (some ⟨g,0,none⟩),.slice (some ⟨(wr.heap.size + 1),0,none⟩) 1 1] rfl (by (try simp only [List.map_toArray,List.map_cons,List.map_nil]);first|done|rfl) ?_;(with_reducible refine (use_callsN (m:=1) (l:=[x1]) rfl (HL.out.below HB1.out) HX1.out (by simp) HS.out.m0 HS.out.m1 HN.out).mono ?_);rintro e w2 ⟨rfl,rfl⟩;refine ⟨_,rfl,?_⟩)|go_in)
     repeat (go_quiet (fail);try go_wp2)
     exact bodyPost_ret (results_tmp2 rfl _ _ _) rfl ⟨rfl,HB1.out⟩
   ·have cnb : decide ((n : Int) < (c.f2.length : Int)) = false:=decide_eq_false (by omega)
    have hn9 : n = c.f2.length:=by have:=HNL.out;omega
    subst hn9
    have hr:=HR.out
    rw [List.drop_length,firstBad,thenU,if_pos rfl,usesOuts] at hr
    clear HR
    have HR:=A0_.mk hr
    clear hr
    have f3 : wr.cell? ⟨g,3,none⟩ = some (.slice A3 c.f3.length c3):=((HL.out.below HB.out).cell 3).trans rfl
    have f4 : wr.cell? ⟨g,4,none⟩ = some (.slice A4 c.f4.length c4):=((HL.out.below HB.out).cell 4).trans rfl
    have f5 : wr.cell? ⟨g,5,none⟩ = some (.slice A5 c.f5.length c5):=((HL.out.below HB.out).cell 5).trans rfl
    go_wp2
    repeat (go_quiet (fail);try go_wp2)
    have hg9 : g < wr.heap.size:=(Array.getElem?_eq_some_iff.1 (HL.out.below HB.out).blk).1
    refine wp_normal' ?_
    refine start_ (n:=18) (S:=fun w' => w'.cell? ⟨g,3,none⟩ = some (.slice A3 c.f3.length c3) ∧ w'.cell? ⟨g,4,none⟩ = some (.slice A4 c.f4.length c4) ∧ w'.cell? ⟨g,5,none⟩ = some (.slice A5 c.f5.length c5)) (ds:=[]) (Array.replicate 18 false) (by kernel_rfl) rfl rfl ⟨f3,f4,f5⟩ (fun hHeld => ?_)
    refine pure_ (i:=0) (N:=some 42) (v:=?_) (a':=?_) (zA_ 18 1) rfl rfl (by kernel_rfl) (fun _ _ _ h => by cases h.1) (Or.inl ⟨by rfl,?_⟩) ?_ ?_
    rotate_left
    ·intro w'
     go_simp
     with_reducible rfl
    rotate_left
    ·simp only [Act.put,sA_,sB_,sC_]
     rfl
    refine pure_ (i:=1) (N:=some 43) (v:=?_) (a':=?_) (zA_ 18 3) rfl rfl (by kernel_rfl) (fun _ _ _ h => by cases h.1) (Or.inl ⟨by rfl,?_⟩) ?_ ?_
    rotate_left
    ·intro w'
     go_simp
     with_reducible rfl
    rotate_left
    ·simp only [Act.put,sA_,sB_,sC_]
     rfl
    refine pure_ (i:=2) (N:=some 44) (v:=?_) (a':=?_) (zA_ 18 7) rfl rfl (by kernel_rfl) (fun _ _ _ h => by cases h.1) (Or.inl ⟨by rfl,?_⟩) ?_ ?_
    rotate_left
    ·intro w'
     go_simp
     with_reducible rfl
    rotate_left
    ·simp only [Act.put,sA_,sB_,sC_]
     rfl
    refine pure_ (i:=3) (N:=some 45) (v:=?_) (a':=?_) (zA_ 18 15) rfl rfl (by kernel_rfl) (fun _ _ _ h => by cases h.1) (Or.inl ⟨by rfl,?_⟩) ?_ ?_
    rotate_left
    ·intro w'
     go_simp
     with_reducible rfl
    rotate_left
    ·simp only [Act.put,sA_,sB_,sC_]
     rfl
    refine take_ (i:=4) (N:=some 46) (v:=?_) (a':=?_) (zA_ 18 31) rfl rfl (by kernel_rfl) (fun _ _ _ h => by cases h.1) (Or.inl ⟨by rfl,?_⟩) hHeld ?_ ?_
    rotate_left
    ·intro w' s0
     obtain ⟨s0_,s1_,s2_⟩:=s0
     go_simp
     with_reducible rfl
    rotate_left
    ·simp only [Act.put,sA_,sB_,sC_]
     rfl
    refine pure_ (i:=5) (N:=some 47) (v:=?_) (a':=?_) (zA_ 18 63) rfl rfl (by kernel_rfl) (fun _ _ _ h => by cases h.1) (Or.inl ⟨by rfl,?_⟩) ?_ ?_
    rotate_left
    ·intro w'
     go_simp
     with_reducible rfl
    rotate_left
    ·simp only [Act.put,sA_,sB_,sC_]
     rfl
    refine pure_ (i:=6) (N:=some 48) (v:=?_) (a':=?_) (zA_ 18 127) rfl rfl (by kernel_rfl) (fun _ _ _ h => by cases h.1) (Or.inl ⟨by rfl,?_⟩) ?_ ?_
    rotate_left
    ·intro w'
     go_simp
     with_reducible rfl
    rotate_left
    ·simp only [Act.put,sA_,sB_,sC_]
     rfl
    refine pure_ (i:=7) (N:=some 49) (v:=?_) (a':=?_) (zA_ 18 255) rfl rfl (by kernel_rfl) (fun _ _ _ h => by cases h.1) (Or.inl ⟨by rfl,?_⟩) ?_ ?_
    rotate_left
    ·intro w'
     go_simp
     with_reducible rfl
    rotate_left
    ·simp only [Act.put,sA_,sB_,sC_]
     rfl
    refine pure_ (i:=8) (N:=some 50) (v:=?_) (a':=?_) (zA_ 18 511) rfl rfl (by kernel_rfl) (fun _ _ _ h => by cases h.1) (Or.inl ⟨by rfl,?_⟩) ?_ ?_
    rotate_left
    ·intro w'
     go_simp
     with_reducible rfl
    rotate_left
    ·simp only [Act.put,sA_,sB_,sC_]
     rfl
    refine take_ (i:=9) (N:=some 51) (v:=?_) (a':=?_) (zA_ 18 1023) rfl rfl (by kernel_rfl) (fun _ _ _ h => by cases h.1) (Or.inl ⟨by rfl,?_⟩) hHeld ?_ ?_
    rotate_left
    ·intro w' s0
     obtain ⟨s0_,s1_,s2_⟩:=s0
     go_simp
     with_reducible rfl
    rotate_left
    ·simp only [Act.put,sA_,sB_,sC_]
     rfl
    refine pure_ (i:=10) (N:=some 52) (v:=?_) (a':=?_) (zA_ 18 2047) rfl rfl (by kernel_rfl) (fun _ _ _ h => by cases h.1) (Or.inl ⟨by rfl,?_⟩) ?_ ?_
    rotate_left
    ·intro w'
     go_simp
     with_reducible rfl
    rotate_left
    ·simp only [Act.put,sA_,sB_,sC_]
     rfl
    refine pure_ (i:=11) (N:=some 53) (v:=?_) (a':=?_) (zA_ 18 4095) rfl rfl (by kernel_rfl) (fun _ _ _ h => by cases h.1) (Or.inl ⟨by rfl,?_⟩) ?_ ?_
    rotate_left
    ·intro w'
     go_simp
     with_reducible rfl
    rotate_left
    ·simp only [Act.put,sA_,sB_,sC_]
     rfl
    refine pure_ (i:=12) (N:=some 54) (v:=?_) (a':=?_) (zA_ 18 8191) rfl rfl (by kernel_rfl) (fun _ _ _ h => by cases h.1) (Or.inl ⟨by rfl,?_⟩) ?_ ?_
    rotate_left
    ·intro w'
     go_simp
     with_reducible rfl
    rotate_left
    ·simp only [Act.put,sA_,sB_,sC_]
     rfl
    refine pure_ (i:=13) (N:=some 55) (v:=?_) (a':=?_) (zA_ 18 16383) rfl rfl (by kernel_rfl) (fun _ _ _ h => by cases h.1) (Or.inl ⟨by rfl,?_⟩) ?_ ?_
    rotate_left
    ·intro w'
     go_simp
     with_reducible rfl
    rotate_left
    ·simp only [Act.put,sA_,sB_,sC_]
     rfl
    refine take_ (i:=14) (N:=some 56) (v:=?_) (a':=?_) (zA_ 18 32767) rfl rfl (by kernel_rfl) (fun _ _ _ h => by cases h.1) (Or.inl ⟨by rfl,?_⟩) hHeld ?_ ?_
    rotate_left
    ·intro w' s0
     obtain ⟨s0_,s1_,s2_⟩:=s0
     go_simp
     with_reducible rfl
    rotate_left
    ·simp only [Act.put,sA_,sB_,sC_]
     rfl
    refine pure_ (i:=17) (N:=some 59) (v:=?_) (a':=?_) (zA_ 18 163839) rfl rfl (by kernel_rfl) (fun _ _ _ h => by cases h.1) (Or.inl ⟨by rfl,?_⟩) ?_ ?_
    rotate_left
    ·intro w'
     go_simp
     with_reducible rfl
    rotate_left
    ·simp only [Act.put,sA_,sB_,sC_]
     rfl
    have hBd : Below w.heap.size w wr.drew:=below_drew HB.out
    generalize wr.drew = wd at hHeld hBd ⊢
    refine one_ (i:=15) (N:=some 57) (zA_ 18 196607) rfl rfl (by kernel_rfl) (by decide) (fun K hK => ?_)
    refine value_ (v:=.slice (some ⟨wd.heap.size,0,none⟩) 3 3) (w1:=wd.alloc (.cells #[.slice A3 c.f3.length c3,.slice A4 c.f4.length c4,.slice A5 c.f5.length c5] 22)) rfl rfl ?_ ?_
    ·go_simp
    have hb5 : Below w.heap.size w (wd.alloc (.cells #[.slice A3 c.f3.length c3,.slice A4 c.f4.length c4,.slice A5 c.f5.length c5] 22)):=eA_ hBd _
    have hblk : (wd.alloc (.cells #[.slice A3 c.f3.length c3,.slice A4 c.f4.length c4,.slice A5 c.f5.length c5] 22)).heap[wd.heap.size]? = some (.cells #[.slice A3 c.f3.length c3,.slice A4 c.f4.length c4,.slice A5 c.f5.length c5] 22 (0,0)):=blk_new _ _
    have hL5:=HL.out.below hb5
    generalize wd.heap.size = g5 at hblk ⊢
    generalize wd.alloc (.cells #[.slice A3 c.f3.length c3,.slice A4 c.f4.length c4,.slice A5 c.f5.length c5] 22) = w5 at hb5 hblk hL5 ⊢
    refine hK.out _ _ ⟨(hL5.cell 3).trans rfl,(hL5.cell 4).trans rfl,(hL5.cell 5).trans rfl⟩ (fun hHeld2 => ?_)
    clear hK K
    (try simp only [Act.put,sA_,sB_,sC_])
    refine pure_ (i:=16) (N:=some 58) (v:=?_) (a':=?_) (zA_ 18 262143) rfl rfl (by kernel_rfl) (fun _ _ _ h => by cases h.1) (Or.inl ⟨by rfl,?_⟩) ?_ ?_
    rotate_left
    ·intro w'
     go_simp
     with_reducible rfl
    rotate_left
    ·simp only [Act.put,sA_,sB_,sC_]
     rfl
    refine done_ (by kernel_rfl) ⟨rfl,?_⟩
    rename_i hKK
    have HL5:=A0_.mk hL5
    have HC5:=A0_.mk (HC.out.below hb5)
    have HB5:=A0_.mk hb5
    have HBLK:=A0_.mk hblk
    clear hHeld hHeld2 hBd hb5 hL5 hblk f3 f4 f5 hg9 HB HL HC
    refine hKK _ _ ?_
    clear hKK
    go_wp2
    repeat (go_quiet (fail);try go_wp2)
    (try simp only [Act.put,sA_,sB_,sC_])
    go_loopg [59] 4 (fun kq v w' => ∃ (n5 : Nat),v = .int .i64 n5 ∧ A0_ (n5 + kq = 4) ∧ A0_ (n5 ≤ 3) ∧ A0_ ([usesOuts c by_,usesBads c by_,usesCons c by_,usesJust c by_].getD n5 (0,0) = (r1,r2)) ∧ A0_ (Below w5.heap.size w5 w'))
    case atStart => exact ⟨0,rfl,⟨by omega⟩,⟨Nat.zero_le _⟩,HR,⟨Below.refl _ _⟩⟩
    case round =>
     clear HR
     obtain ⟨n5,rfl,HK5,HNL5,HR,HB⟩:=hrel
     cases gk with
     |zero =>
      have h1:=HK5.out
      have h2:=HNL5.out
      omega
     |succ k5 =>
      have hcase : n5 = 0 ∨ n5 = 1 ∨ n5 = 2 ∨ n5 = 3:=by have:=HNL5.out;omega
      have hblr : wr.heap[g5]? = some (.cells #[.slice A3 c.f3.length c3,.slice A4 c.f4.length c4,.slice A5 c.f5.length c5] 22 (0,0)):=(HB.out.block _ (Array.getElem?_eq_some_iff.1 HBLK.out).1).trans HBLK.out
      have e0 : wr.cell? ⟨g5,0,none⟩ = some (.slice A3 c.f3.length c3):=(bC_ hblr 0).trans rfl
      have e1 : wr.cell? ⟨g5,1,none⟩ = some (.slice A4 c.f4.length c4):=(bC_ hblr 1).trans rfl
      have e2 : wr.cell? ⟨g5,2,none⟩ = some (.slice A5 c.f5.length c5):=(bC_ hblr 2).trans rfl
      clear hblr
      rcases hcase with rfl|rfl|rfl|rfl
      ·have hr : thenU (firstBad (use1 c.f0 by_) c.f3 0) (usesBads c by_) = (r1,r2):=HR.out
       clear HR
       have HR:=A0_.mk hr
       clear hr
       go_wp2
       repeat (go_quiet (fail);try go_wp2)
       clear e0 e1 e2
       (try simp only [Act.put,sA_,sB_,sC_])
       go_loopg [65] (c.f3.length + 1) (fun kq v w' => ∃ (n : Nat),v = .int .i64 n ∧ A0_ (n + kq = c.f3.length + 1) ∧ A0_ (n ≤ c.f3.length) ∧ A0_ (thenU (firstBad (use1 c.f0 by_) (c.f3.drop n) n) (usesBads c by_) = (r1,r2)) ∧ A0_ (Below w5.heap.size w5 w'))
       case atStart => exact ⟨0,rfl,⟨by omega⟩,⟨Nat.zero_le _⟩,⟨by rw [List.drop_zero];exact HR.out⟩,⟨HB.out⟩⟩
       case round =>
        clear HR HB
        obtain ⟨n,rfl,HK,HNL,HR,HB⟩:=hrel
        cases gk with
        |zero =>
         have h1:=HK.out
         have h2:=HNL.out
         omega
        |succ k1 =>
         by_cases cn : n < c.f3.length
         ·have cnb : decide ((n : Int) < (c.f3.length : Int)) = true:=decide_eq_true (by omega)
          have p0 : (0 ≤ (n : Int)) = True:=eq_true (by omega)
          have p1 : ((n : Int) < (c.f3.length : Int)) = True:=eq_true (by omega)
          have hw1 : IntKind.i64.wrap ((n : Int) + 1) = ((n + 1 : Nat) : Int):=by have:=HS.out.l3;rw [IntKind.wrap_i64];omega
          obtain ⟨ad,ea,hx⟩:=C_int_get (HC5.out.below HB.out).r3 n cn
          cases ea
          have hdrop : c.f3.drop n = c.f3[n] :: c.f3.drop (n + 1):=List.drop_eq_getElem_cons cn
          have hr:=HR.out
          rw [hdrop,firstBad] at hr
          clear HR hdrop
          generalize c.f3[n] = x at hr hx ⊢
          have HB1 : A0_ (Below w5.heap.size w5 (wr.alloc (.cells #[.int .i64 x] 3))):=⟨eA_ HB.out _⟩
          have HX1 : A0_ (Kd.C (Kd.int .i64) (wr.alloc (.cells #[.int .i64 x] 3)) (some ⟨wr.heap.size,0,none⟩) [x].length [x]):=⟨C_ints (t:=3) (xs:=[x]) (blk_new _ _) (by simp)⟩
          by_cases ce : use1 c.f0 by_ x = 0
          ·rw [if_pos ce] at hr
           have ceb : (useF c.f0 by_ [x] == 0) = true:=beq_iff_eq.mpr ce
           have HR:=A0_.mk hr
           clear hr ce
           go_wp2_with (first|((with_reducible refine gate_callee (f:=112) rfl ?_);refine goesL_ (some 73) rfl rfl Tryz.func112 (by kernel_rfl) rfl #[.pointer (some ⟨g,0,none⟩),.slice (some ⟨wr.heap.size,0,none⟩) 1 1] rfl (by (try simp only [List.map_toArray,List.map_cons,List.map_nil]);first|done|rfl) ?_;(with_reducible refine (use_callsN (m:=1) (l:=[x]) rfl (HL5.out.below HB1.out) HX1.out (by simp) HS.out.m0 HS.out.m1 HN.out).mono ?_);rintro e w2 ⟨rfl,rfl⟩;refine ⟨_,rfl,?_⟩)|go_in)
           repeat (go_quiet (fail);try go_wp2)
           go_roundg k1
           case measure => omega
           case rel => exact ⟨n + 1,rfl,⟨by have:=HK.out;omega⟩,⟨by omega⟩,HR,HB1⟩
          ·rw [if_neg ce] at hr
           have ceb : (useF c.f0 by_ [x] == 0) = false:=beq_eq_false_iff_ne.mpr ce
           unfold thenU at hr
           rw [if_neg ce] at hr
           simp only [Prod.mk.injEq] at hr
           obtain ⟨rfl,rfl⟩:=hr
           have ce2 : ¬ (useF c.f0 by_ [x] = 0):=ce
           clear ce
           go_wp2_with (first|((with_reducible refine gate_callee (f:=112) rfl ?_);refine goesL_ (some 73) rfl rfl Tryz.func112 (by kernel_rfl) rfl #[.pointer (some ⟨g,0,none⟩),.slice (some ⟨wr.heap.size,0,none⟩) 1 1] rfl (by (try simp only [List.map_toArray,List.map_cons,List.map_nil]);first|done|rfl) ?_;(with_reducible refine (use_callsN (m:=1) (l:=[x]) rfl (HL5.out.below HB1.out) HX1.out (by simp) HS.out.m0 HS.out.m1 HN.out).mono ?_);rintro e w2 ⟨rfl,rfl⟩;refine ⟨_,rfl,?_⟩)|go_in)
           repeat (go_quiet (fail);try go_wp2)
           exact bodyPost_ret (results_tmp2 rfl _ _ _) rfl ⟨rfl,HB5.out.trans (HB1.out.mono HB5.out.size)⟩
         ·have cnb : decide ((n : Int) < (c.f3.length : Int)) = false:=decide_eq_false (by omega)
          have hn9 : n = c.f3.length:=by have:=HNL.out;omega
          subst hn9
          have hr:=HR.out
          rw [List.drop_length,firstBad,thenU,if_pos rfl] at hr
          have HR9 : A0_ ([usesOuts c by_,usesBads c by_,usesCons c by_,usesJust c by_].getD (0 + 1) (0,0) = (r1,r2)):=⟨hr⟩
          clear HR hr
          go_wp2
          repeat (go_quiet (fail);try go_wp2)
          go_roundg k5
          case measure => omega
          case rel => exact ⟨0 + 1,rfl,⟨by have:=HK5.out;omega⟩,⟨by omega⟩,HR9,HB⟩
      ·have hr : thenU (firstBad (use1 c.f0 by_) c.f4 0) (usesCons c by_) = (r1,r2):=HR.out
       clear HR
       have HR:=A0_.mk hr
       clear hr
       go_wp2
       repeat (go_quiet (fail);try go_wp2)
       clear e0 e1 e2
       (try simp only [Act.put,sA_,sB_,sC_])
       go_loopg [65] (c.f4.length + 1) (fun kq v w' => ∃ (n : Nat),v = .int .i64 n ∧ A0_ (n + kq = c.f4.length + 1) ∧ A0_ (n ≤ c.f4.length) ∧ A0_ (thenU (firstBad (use1 c.f0 by_) (c.f4.drop n) n) (usesCons c by_) = (r1,r2)) ∧ A0_ (Below w5.heap.size w5 w'))
       case atStart => exact ⟨0,rfl,⟨by omega⟩,⟨Nat.zero_le _⟩,⟨by rw [List.drop_zero];exact HR.out⟩,⟨HB.out⟩⟩
       case round =>
        clear HR HB
        obtain ⟨n,rfl,HK,HNL,HR,HB⟩:=hrel
        cases gk with
        |zero =>
         have h1:=HK.out
         have h2:=HNL.out
         omega
        |succ k1 =>
         by_cases cn : n < c.f4.length
         ·have cnb : decide ((n : Int) < (c.f4.length : Int)) = true:=decide_eq_true (by omega)
          have p0 : (0 ≤ (n : Int)) = True:=eq_true (by omega)
          have p1 : ((n : Int) < (c.f4.length : Int)) = True:=eq_true (by omega)
          have hw1 : IntKind.i64.wrap ((n : Int) + 1) = ((n + 1 : Nat) : Int):=by have:=HS.out.l4;rw [IntKind.wrap_i64];omega
          obtain ⟨ad,ea,hx⟩:=C_int_get (HC5.out.below HB.out).r4 n cn
          cases ea
          have hdrop : c.f4.drop n = c.f4[n] :: c.f4.drop (n + 1):=List.drop_eq_getElem_cons cn
          have hr:=HR.out
          rw [hdrop,firstBad] at hr
          clear HR hdrop
          generalize c.f4[n] = x at hr hx ⊢
          have HB1 : A0_ (Below w5.heap.size w5 (wr.alloc (.cells #[.int .i64 x] 3))):=⟨eA_ HB.out _⟩
          have HX1 : A0_ (Kd.C (Kd.int .i64) (wr.alloc (.cells #[.int .i64 x] 3)) (some ⟨wr.heap.size,0,none⟩) [x].length [x]):=⟨C_ints (t:=3) (xs:=[x]) (blk_new _ _) (by simp)⟩
          by_cases ce : use1 c.f0 by_ x = 0
          ·rw [if_pos ce] at hr
           have ceb : (useF c.f0 by_ [x] == 0) = true:=beq_iff_eq.mpr ce
           have HR:=A0_.mk hr
           clear hr ce
           go_wp2_with (first|((with_reducible refine gate_callee (f:=112) rfl ?_);refine goesL_ (some 73) rfl rfl Tryz.func112 (by kernel_rfl) rfl #[.pointer (some ⟨g,0,none⟩),.slice (some ⟨wr.heap.size,0,none⟩) 1 1] rfl (by (try simp only [List.map_toArray,List.map_cons,List.map_nil]);first|done|rfl) ?_;(with_reducible refine (use_callsN (m:=1) (l:=[x]) rfl (HL5.out.below HB1.out) HX1.out (by simp) HS.out.m0 HS.out.m1 HN.out).mono ?_);rintro e w2 ⟨rfl,rfl⟩;refine ⟨_,rfl,?_⟩)|go_in)
           repeat (go_quiet (fail);try go_wp2)
           go_roundg k1
           case measure => omega
           case rel => exact ⟨n + 1,rfl,⟨by have:=HK.out;omega⟩,⟨by omega⟩,HR,HB1⟩
          ·rw [if_neg ce] at hr
           have ceb : (useF c.f0 by_ [x] == 0) = false:=beq_eq_false_iff_ne.mpr ce
           unfold thenU at hr
           rw [if_neg ce] at hr
           simp only [Prod.mk.injEq] at hr
           obtain ⟨rfl,rfl⟩:=hr
           have ce2 : ¬ (useF c.f0 by_ [x] = 0):=ce
           clear ce
           go_wp2_with (first|((with_reducible refine gate_callee (f:=112) rfl ?_);refine goesL_ (some 73) rfl rfl Tryz.func112 (by kernel_rfl) rfl #[.pointer (some ⟨g,0,none⟩),.slice (some ⟨wr.heap.size,0,none⟩) 1 1] rfl (by (try simp only [List.map_toArray,List.map_cons,List.map_nil]);first|done|rfl) ?_;(with_reducible refine (use_callsN (m:=1) (l:=[x]) rfl (HL5.out.below HB1.out) HX1.out (by simp) HS.out.m0 HS.out.m1 HN.out).mono ?_);rintro e w2 ⟨rfl,rfl⟩;refine ⟨_,rfl,?_⟩)|go_in)
           repeat (go_quiet (fail);try go_wp2)
           exact bodyPost_ret (results_tmp2 rfl _ _ _) rfl ⟨rfl,HB5.out.trans (HB1.out.mono HB5.out.size)⟩
         ·have cnb : decide ((n : Int) < (c.f4.length : Int)) = false:=decide_eq_false (by omega)
          have hn9 : n = c.f4.length:=by have:=HNL.out;omega
          subst hn9
          have hr:=HR.out
          rw [List.drop_length,firstBad,thenU,if_pos rfl] at hr
          have HR9 : A0_ ([usesOuts c by_,usesBads c by_,usesCons c by_,usesJust c by_].getD (1 + 1) (0,0) = (r1,r2)):=⟨hr⟩
          clear HR hr
          go_wp2
          repeat (go_quiet (fail);try go_wp2)
          go_roundg k5
          case measure => omega
          case rel => exact ⟨1 + 1,rfl,⟨by have:=HK5.out;omega⟩,⟨by omega⟩,HR9,HB⟩
      ·have hr : thenU (firstBad (use1 c.f0 by_) c.f5 0) (usesJust c by_) = (r1,r2):=HR.out
       clear HR
       have HR:=A0_.mk hr
       clear hr
       go_wp2
       repeat (go_quiet (fail);try go_wp2)
       clear e0 e1 e2
       (try simp only [Act.put,sA_,sB_,sC_])
       go_loopg [65] (c.f5.length + 1) (fun kq v w' => ∃ (n : Nat),v = .int .i64 n ∧ A0_ (n + kq = c.f5.length + 1) ∧ A0_ (n ≤ c.f5.length) ∧ A0_ (thenU (firstBad (use1 c.f0 by_) (c.f5.drop n) n) (usesJust c by_) = (r1,r2)) ∧ A0_ (Below w5.heap.size w5 w'))
       case atStart => exact ⟨0,rfl,⟨by omega⟩,⟨Nat.zero_le _⟩,⟨by rw [List.drop_zero];exact HR.out⟩,⟨HB.out⟩⟩
       case round =>
        clear HR HB
        obtain ⟨n,rfl,HK,HNL,HR,HB⟩:=hrel
        cases gk with
        |zero =>
         have h1:=HK.out
         have h2:=HNL.out
         omega
        |succ k1 =>
         by_cases cn : n < c.f5.length
         ·have cnb : decide ((n : Int) < (c.f5.length : Int)) = true:=decide_eq_true (by omega)
          have p0 : (0 ≤ (n : Int)) = True:=eq_true (by omega)
          have p1 : ((n : Int) < (c.f5.length : Int)) = True:=eq_true (by omega)
          have hw1 : IntKind.i64.wrap ((n : Int) + 1) = ((n + 1 : Nat) : Int):=by have:=HS.out.l5;rw [IntKind.wrap_i64];omega
          obtain ⟨ad,ea,hx⟩:=C_int_get (HC5.out.below HB.out).r5 n cn
          cases ea
          have hdrop : c.f5.drop n = c.f5[n] :: c.f5.drop (n + 1):=List.drop_eq_getElem_cons cn
          have hr:=HR.out
          rw [hdrop,firstBad] at hr
          clear HR hdrop
          generalize c.f5[n] = x at hr hx ⊢
          have HB1 : A0_ (Below w5.heap.size w5 (wr.alloc (.cells #[.int .i64 x] 3))):=⟨eA_ HB.out _⟩
          have HX1 : A0_ (Kd.C (Kd.int .i64) (wr.alloc (.cells #[.int .i64 x] 3)) (some ⟨wr.heap.size,0,none⟩) [x].length [x]):=⟨C_ints (t:=3) (xs:=[x]) (blk_new _ _) (by simp)⟩
          by_cases ce : use1 c.f0 by_ x = 0
          ·rw [if_pos ce] at hr
           have ceb : (useF c.f0 by_ [x] == 0) = true:=beq_iff_eq.mpr ce
           have HR:=A0_.mk hr
           clear hr ce
           go_wp2_with (first|((with_reducible refine gate_callee (f:=112) rfl ?_);refine goesL_ (some 73) rfl rfl Tryz.func112 (by kernel_rfl) rfl #[.pointer (some ⟨g,0,none⟩),.slice (some ⟨wr.heap.size,0,none⟩) 1 1] rfl (by (try simp only [List.map_toArray,List.map_cons,List.map_nil]);first|done|rfl) ?_;(with_reducible refine (use_callsN (m:=1) (l:=[x]) rfl (HL5.out.below HB1.out) HX1.out (by simp) HS.out.m0 HS.out.m1 HN.out).mono ?_);rintro e w2 ⟨rfl,rfl⟩;refine ⟨_,rfl,?_⟩)|go_in)
           repeat (go_quiet (fail);try go_wp2)
           go_roundg k1
           case measure => omega
           case rel => exact ⟨n + 1,rfl,⟨by have:=HK.out;omega⟩,⟨by omega⟩,HR,HB1⟩
          ·rw [if_neg ce] at hr
           have ceb : (useF c.f0 by_ [x] == 0) = false:=beq_eq_false_iff_ne.mpr ce
           unfold thenU at hr
           rw [if_neg ce] at hr
           simp only [Prod.mk.injEq] at hr
           obtain ⟨rfl,rfl⟩:=hr
           have ce2 : ¬ (useF c.f0 by_ [x] = 0):=ce
           clear ce
           go_wp2_with (first|((with_reducible refine gate_callee (f:=112) rfl ?_);refine goesL_ (some 73) rfl rfl Tryz.func112 (by kernel_rfl) rfl #[.pointer (some ⟨g,0,none⟩),.slice (some ⟨wr.heap.size,0,none⟩) 1 1] rfl (by (try simp only [List.map_toArray,List.map_cons,List.map_nil]);first|done|rfl) ?_;(with_reducible refine (use_callsN (m:=1) (l:=[x]) rfl (HL5.out.below HB1.out) HX1.out (by simp) HS.out.m0 HS.out.m1 HN.out).mono ?_);rintro e w2 ⟨rfl,rfl⟩;refine ⟨_,rfl,?_⟩)|go_in)
           repeat (go_quiet (fail);try go_wp2)
           exact bodyPost_ret (results_tmp2 rfl _ _ _) rfl ⟨rfl,HB5.out.trans (HB1.out.mono HB5.out.size)⟩
         ·have cnb : decide ((n : Int) < (c.f5.length : Int)) = false:=decide_eq_false (by omega)
          have hn9 : n = c.f5.length:=by have:=HNL.out;omega
          subst hn9
          have hr:=HR.out
          rw [List.drop_length,firstBad,thenU,if_pos rfl] at hr
          have HR9 : A0_ ([usesOuts c by_,usesBads c by_,usesCons c by_,usesJust c by_].getD (2 + 1) (0,0) = (r1,r2)):=⟨hr⟩
          clear HR hr
          go_wp2
          repeat (go_quiet (fail);try go_wp2)
          go_roundg k5
          case measure => omega
          case rel => exact ⟨2 + 1,rfl,⟨by have:=HK5.out;omega⟩,⟨by omega⟩,HR9,HB⟩
      ·have hr : usesJust c by_ = (r1,r2):=HR.out
       clear HR
       unfold usesJust at hr
       have HR:=A0_.mk hr
       clear hr
       have f6 : wr.cell? ⟨g,6,none⟩ = some (.slice A6 c.f6.length c6):=((HL5.out.below HB.out).cell 6).trans rfl
       go_wp2
       repeat (go_quiet (fail);try go_wp2)
       clear e0 e1 e2 f6
       (try simp only [Act.put,sA_,sB_,sC_])
       go_loopg [86] (c.f6.length + 1) (fun kq v w' => ∃ (n : Nat),v = .int .i64 n ∧ A0_ (n + kq = c.f6.length + 1) ∧ A0_ (n ≤ c.f6.length) ∧ A0_ (thenU (firstBad (useF c.f0 by_) (c.f6.drop n) n) (usesFair c by_) = (r1,r2)) ∧ A0_ (Below w5.heap.size w5 w'))
       case atStart => exact ⟨0,rfl,⟨by omega⟩,⟨Nat.zero_le _⟩,⟨by rw [List.drop_zero];exact HR.out⟩,⟨HB.out⟩⟩
       case round =>
        clear HR HB
        obtain ⟨n,rfl,HK,HNL,HR,HB⟩:=hrel
        cases gk with
        |zero =>
         have h1:=HK.out
         have h2:=HNL.out
         omega
        |succ k1 =>
         by_cases cn : n < c.f6.length
         ·have cnb : decide ((n : Int) < (c.f6.length : Int)) = true:=decide_eq_true (by omega)
          have p0 : (0 ≤ (n : Int)) = True:=eq_true (by omega)
          have p1 : ((n : Int) < (c.f6.length : Int)) = True:=eq_true (by omega)
          have hw1 : IntKind.i64.wrap ((n : Int) + 1) = ((n + 1 : Nat) : Int):=by have:=HS.out.l6;rw [IntKind.wrap_i64];omega
          obtain ⟨ad,A0,c0,ea,hx,hlc,hxr⟩:=at_J (HC5.out.below HB.out).r6 n cn
          have hxl : c.f6[n].length ≤ 16384:=HS.out.j6 _ (List.getElem_mem cn)
          cases ea
          have hdrop : c.f6.drop n = c.f6[n] :: c.f6.drop (n + 1):=List.drop_eq_getElem_cons cn
          have hr:=HR.out
          rw [hdrop,firstBad] at hr
          clear HR hdrop
          generalize c.f6[n] = x at hr hx hxr hxl hlc ⊢
          have HX1:=A0_.mk hxr
          have HXL:=A0_.mk hxl
          clear hxr hxl hlc
          by_cases ce : useF c.f0 by_ x = 0
          ·rw [if_pos ce] at hr
           have ceb : (useF c.f0 by_ x == 0) = true:=beq_iff_eq.mpr ce
           have HR:=A0_.mk hr
           clear hr ce
           go_wp2_with (first|((with_reducible refine gate_callee (f:=112) rfl ?_);refine goesL_ (some 93) rfl rfl Tryz.func112 (by kernel_rfl) rfl #[.pointer (some ⟨g,0,none⟩),.slice A0 x.length c0] rfl (by (try simp only [List.map_toArray,List.map_cons,List.map_nil]);first|done|rfl) ?_;(with_reducible refine (use_calls (HL5.out.below HB.out) HX1.out (by have:=HXL.out;omega) HS.out.m0 HS.out.m1 HN.out).mono ?_);rintro e w2 ⟨rfl,rfl⟩;refine ⟨_,rfl,?_⟩)|go_in)
           repeat (go_quiet (fail);try go_wp2)
           go_roundg k1
           case measure => omega
           case rel => exact ⟨n + 1,rfl,⟨by have:=HK.out;omega⟩,⟨by omega⟩,HR,HB⟩
          ·rw [if_neg ce] at hr
           have ceb : (useF c.f0 by_ x == 0) = false:=beq_eq_false_iff_ne.mpr ce
           unfold thenU at hr
           rw [if_neg ce] at hr
           simp only [Prod.mk.injEq] at hr
           obtain ⟨rfl,rfl⟩:=hr
           have ce2 : ¬ (useF c.f0 by_ x = 0):=ce
           clear ce
           go_wp2_with (first|((with_reducible refine gate_callee (f:=112) rfl ?_);refine goesL_ (some 93) rfl rfl Tryz.func112 (by kernel_rfl) rfl #[.pointer (some ⟨g,0,none⟩),.slice A0 x.length c0] rfl (by (try simp only [List.map_toArray,List.map_cons,List.map_nil]);first|done|rfl) ?_;(with_reducible refine (use_calls (HL5.out.below HB.out) HX1.out (by have:=HXL.out;omega) HS.out.m0 HS.out.m1 HN.out).mono ?_);rintro e w2 ⟨rfl,rfl⟩;refine ⟨_,rfl,?_⟩)|go_in)
           repeat (go_quiet (fail);try go_wp2)
           exact bodyPost_ret (results_tmp2 rfl _ _ _) rfl ⟨rfl,HB5.out.trans (HB.out.mono HB5.out.size)⟩
         ·have cnb : decide ((n : Int) < (c.f6.length : Int)) = false:=decide_eq_false (by omega)
          have hn9 : n = c.f6.length:=by have:=HNL.out;omega
          subst hn9
          have hr:=HR.out
          rw [List.drop_length,firstBad,thenU,if_pos rfl,usesFair] at hr
          clear HR
          have HR:=A0_.mk hr
          clear hr
          have f7 : wr.cell? ⟨g,7,none⟩ = some (.slice A7 c.f7.length c7):=((HL5.out.below HB.out).cell 7).trans rfl
          go_wp2
          repeat (go_quiet (fail);try go_wp2)
          (try simp only [Act.put,sA_,sB_,sC_])
          go_loopg [105] (c.f7.length + 1) (fun kq v w' => ∃ (n : Nat),v = .int .i64 n ∧ A0_ (n + kq = c.f7.length + 1) ∧ A0_ (n ≤ c.f7.length) ∧ A0_ (thenU (firstBad (use1 c.f0 by_) (c.f7.drop n) n) (usesAnds c by_) = (r1,r2)) ∧ A0_ (Below w5.heap.size w5 w'))
          case atStart => exact ⟨0,rfl,⟨by omega⟩,⟨Nat.zero_le _⟩,⟨by rw [List.drop_zero];exact HR.out⟩,⟨HB.out⟩⟩
          case round =>
           clear HR HB
           obtain ⟨n,rfl,HK,HNL,HR,HB⟩:=hrel
           cases gk with
           |zero =>
            have h1:=HK.out
            have h2:=HNL.out
            omega
           |succ k1 =>
            by_cases cn : n < c.f7.length
            ·have cnb : decide ((n : Int) < (c.f7.length : Int)) = true:=decide_eq_true (by omega)
             have p0 : (0 ≤ (n : Int)) = True:=eq_true (by omega)
             have p1 : ((n : Int) < (c.f7.length : Int)) = True:=eq_true (by omega)
             have hw1 : IntKind.i64.wrap ((n : Int) + 1) = ((n + 1 : Nat) : Int):=by have:=HS.out.l7;rw [IntKind.wrap_i64];omega
             obtain ⟨ad,ea,hx⟩:=C_int_get (HC5.out.below HB.out).r7 n cn
             cases ea
             have hdrop : c.f7.drop n = c.f7[n] :: c.f7.drop (n + 1):=List.drop_eq_getElem_cons cn
             have hr:=HR.out
             rw [hdrop,firstBad] at hr
             clear HR hdrop
             generalize c.f7[n] = x at hr hx ⊢
             have HB1 : A0_ (Below w5.heap.size w5 (wr.alloc (.cells #[.int .i64 x] 3))):=⟨eA_ HB.out _⟩
             have HX1 : A0_ (Kd.C (Kd.int .i64) (wr.alloc (.cells #[.int .i64 x] 3)) (some ⟨wr.heap.size,0,none⟩) [x].length [x]):=⟨C_ints (t:=3) (xs:=[x]) (blk_new _ _) (by simp)⟩
             by_cases ce : use1 c.f0 by_ x = 0
             ·rw [if_pos ce] at hr
              have ceb : (useF c.f0 by_ [x] == 0) = true:=beq_iff_eq.mpr ce
              have HR:=A0_.mk hr
              clear hr ce
              go_wp2_with (first|((with_reducible refine gate_callee (f:=112) rfl ?_);refine goesL_ (some 113) rfl rfl Tryz.func112 (by kernel_rfl) rfl #[.pointer (some ⟨g,0,none⟩),.slice (some ⟨wr.heap.size,0,none⟩) 1 1] rfl (by (try simp only [List.map_toArray,List.map_cons,List.map_nil]);first|done|rfl) ?_;(with_reducible refine (use_callsN (m:=1) (l:=[x]) rfl (HL5.out.below HB1.out) HX1.out (by simp) HS.out.m0 HS.out.m1 HN.out).mono ?_);rintro e w2 ⟨rfl,rfl⟩;refine ⟨_,rfl,?_⟩)|go_in)
              repeat (go_quiet (fail);try go_wp2)
              go_roundg k1
              case measure => omega
              case rel => exact ⟨n + 1,rfl,⟨by have:=HK.out;omega⟩,⟨by omega⟩,HR,HB1⟩
             ·rw [if_neg ce] at hr
              have ceb : (useF c.f0 by_ [x] == 0) = false:=beq_eq_false_iff_ne.mpr ce
              unfold thenU at hr
              rw [if_neg ce] at hr
              simp only [Prod.mk.injEq] at hr
              obtain ⟨rfl,rfl⟩:=hr
              have ce2 : ¬ (useF c.f0 by_ [x] = 0):=ce
              clear ce
              go_wp2_with (first|((with_reducible refine gate_callee (f:=112) rfl ?_);refine goesL_ (some 113) rfl rfl Tryz.func112 (by kernel_rfl) rfl #[.pointer (some ⟨g,0,none⟩),.slice (some ⟨wr.heap.size,0,none⟩) 1 1] rfl (by (try simp only [List.map_toArray,List.map_cons,List.map_nil]);first|done|rfl) ?_;(with_reducible refine (use_callsN (m:=1) (l:=[x]) rfl (HL5.out.below HB1.out) HX1.out (by simp) HS.out.m0 HS.out.m1 HN.out).mono ?_);rintro e w2 ⟨rfl,rfl⟩;refine ⟨_,rfl,?_⟩)|go_in)
              repeat (go_quiet (fail);try go_wp2)
              exact bodyPost_ret (results_tmp2 rfl _ _ _) rfl ⟨rfl,HB5.out.trans (HB1.out.mono HB5.out.size)⟩
            ·have cnb : decide ((n : Int) < (c.f7.length : Int)) = false:=decide_eq_false (by omega)
             have hn9 : n = c.f7.length:=by have:=HNL.out;omega
             subst hn9
             have hr:=HR.out
             rw [List.drop_length,firstBad,thenU,if_pos rfl,usesAnds] at hr
             clear HR
             have HR:=A0_.mk hr
             clear hr
             have f8 : wr.cell? ⟨g,8,none⟩ = some (.slice A8 c.f8.length c8):=((HL5.out.below HB.out).cell 8).trans rfl
             go_wp2
             repeat (go_quiet (fail);try go_wp2)
             (try simp only [Act.put,sA_,sB_,sC_])
             go_loopg [125] (c.f8.length + 1) (fun kq v w' => ∃ (n : Nat),v = .int .i64 n ∧ A0_ (n + kq = c.f8.length + 1) ∧ A0_ (n ≤ c.f8.length) ∧ A0_ (firstBad (fun x : S125 => useF c.f0 by_ [x.f1,x.f2]) (c.f8.drop n) n = (r1,r2)) ∧ A0_ (Below w5.heap.size w5 w'))
             case atStart => exact ⟨0,rfl,⟨by omega⟩,⟨Nat.zero_le _⟩,⟨by rw [List.drop_zero];exact HR.out⟩,⟨HB.out⟩⟩
             case round =>
              clear HR HB
              obtain ⟨n,rfl,HK,HNL,HR,HB⟩:=hrel
              cases gk with
              |zero =>
               have h1:=HK.out
               have h2:=HNL.out
               omega
              |succ k1 =>
               by_cases cn : n < c.f8.length
               ·have cnb : decide ((n : Int) < (c.f8.length : Int)) = true:=decide_eq_true (by omega)
                have p0 : (0 ≤ (n : Int)) = True:=eq_true (by omega)
                have p1 : ((n : Int) < (c.f8.length : Int)) = True:=eq_true (by omega)
                have hw1 : IntKind.i64.wrap ((n : Int) + 1) = ((n + 1 : Nat) : Int):=by have:=HS.out.l8;rw [IntKind.wrap_i64];omega
                obtain ⟨ad,ea,hx0,hx1,hx2⟩:=C_and_get (HC5.out.below HB.out).r8 n cn
                cases ea
                have hdrop : c.f8.drop n = c.f8[n] :: c.f8.drop (n + 1):=List.drop_eq_getElem_cons cn
                have hr:=HR.out
                rw [hdrop,firstBad] at hr
                clear HR hdrop
                generalize c.f8[n] = x at hr hx0 hx1 hx2 ⊢
                obtain ⟨x0,x1,x2⟩:=x
                dsimp only at hr hx0 hx1 hx2
                have HB1 : A0_ (Below w5.heap.size w5 ((wr.alloc (.cells #[.int .i64 x0,.int .i64 x1,.int .i64 x2] 75)).alloc (.cells #[.int .i64 x1,.int .i64 x2] 3))):=⟨eA_ (eA_ HB.out _) _⟩
                have HX1 : A0_ (Kd.C (Kd.int .i64) ((wr.alloc (.cells #[.int .i64 x0,.int .i64 x1,.int .i64 x2] 75)).alloc (.cells #[.int .i64 x1,.int .i64 x2] 3)) (some ⟨(wr.heap.size + 1),0,none⟩) [x1,x2].length [x1,x2]):=⟨C_ints (t:=3) (xs:=[x1,x2]) (by have:=blk_new ((wr.alloc (.cells #[.int .i64 x0,.int .i64 x1,.int .i64 x2] 75))) (.cells #[.int .i64 x1,.int .i64 x2] 3);simpa using this) (by simp)⟩
                by_cases ce : useF c.f0 by_ [x1,x2] = 0
                ·rw [if_pos ce] at hr
                 have ceb : (useF c.f0 by_ [x1,x2] == 0) = true:=beq_iff_eq.mpr ce
                 have HR:=A0_.mk hr
                 clear hr ce
                 go_wp2_with (first|((with_reducible refine gate_callee (f:=112) rfl ?_);refine goesL_ (some 136) rfl rfl Tryz.func112 (by kernel_rfl) rfl #[.pointer (some ⟨g,0,none⟩),.slice (some ⟨(wr.heap.size + 1),0,none⟩) 2 2] rfl (by (try simp only [List.map_toArray,List.map_cons,List.map_nil]);first|done|rfl) ?_;(with_reducible refine (use_callsN (m:=2) (l:=[x1,x2]) rfl (HL5.out.below HB1.out) HX1.out (by simp) HS.out.m0 HS.out.m1 HN.out).mono ?_);rintro e w2 ⟨rfl,rfl⟩;refine ⟨_,rfl,?_⟩)|go_in)
                 repeat (go_quiet (fail);try go_wp2)
                 go_roundg k1
                 case measure => omega
                 case rel => exact ⟨n + 1,rfl,⟨by have:=HK.out;omega⟩,⟨by omega⟩,HR,HB1⟩
                ·rw [if_neg ce] at hr
                 have ceb : (useF c.f0 by_ [x1,x2] == 0) = false:=beq_eq_false_iff_ne.mpr ce
                 skip
                 simp only [Prod.mk.injEq] at hr
                 obtain ⟨rfl,rfl⟩:=hr
                 have ce2 : ¬ (useF c.f0 by_ [x1,x2] = 0):=ce
                 clear ce
                 go_wp2_with (first|((with_reducible refine gate_callee (f:=112) rfl ?_);refine goesL_ (some 136) rfl rfl Tryz.func112 (by kernel_rfl) rfl #[.pointer (some ⟨g,0,none⟩),.slice (some ⟨(wr.heap.size + 1),0,none⟩) 2 2] rfl (by (try simp only [List.map_toArray,List.map_cons,List.map_nil]);first|done|rfl) ?_;(with_reducible refine (use_callsN (m:=2) (l:=[x1,x2]) rfl (HL5.out.below HB1.out) HX1.out (by simp) HS.out.m0 HS.out.m1 HN.out).mono ?_);rintro e w2 ⟨rfl,rfl⟩;refine ⟨_,rfl,?_⟩)|go_in)
                 repeat (go_quiet (fail);try go_wp2)
                 exact bodyPost_ret (results_tmp2 rfl _ _ _) rfl ⟨rfl,HB5.out.trans (HB1.out.mono HB5.out.size)⟩
               ·have cnb : decide ((n : Int) < (c.f8.length : Int)) = false:=decide_eq_false (by omega)
                have hn9 : n = c.f8.length:=by have:=HNL.out;omega
                subst hn9
                have hr:=HR.out
                rw [List.drop_length,firstBad] at hr
                clear HR
                simp only [Prod.mk.injEq] at hr
                obtain ⟨rfl,rfl⟩:=hr
                go_wp2
                repeat (go_quiet (fail);try go_wp2)
                exact bodyPost_ret (results_tmp2 rfl _ _ _) rfl ⟨rfl,HB5.out.trans (HB.out.mono HB5.out.size)⟩
end Go.Proofs.YtdmngdohlobogaaGreatDoor.Asc

