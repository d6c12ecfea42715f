import Derived.Test.YtdmngdohlobogaaGreatDoorYBCopyM
namespace Go.Proofs.YtdmngdohlobogaaGreatDoor.Asc
open Go Go.RowKit Go.Proofs.YtdmngdohlobogaaGreatDoorW.PrintWords Go.Proofs.YtdmngdohlobogaaGreatDoorW.PrintLast Go.Proofs.YtdmngdohlobogaaGreatDoorW.PrintMore
set_option linter.unusedVariables false
set_option linter.unusedSimpArgs false
theorem row_get {w : World} {A : Option Addr} {l : List (List Int)} (h : Kd.C (Kd.slice 3 (Kd.int .i64)) w A l.length l) (n : Nat) (hn : n < l.length) : ∃ ad A1 c1,A = some ad ∧ w.cell? (ad.add n) = some (.slice A1 l[n].length c1) ∧ RawAt w l[n] (A1,l[n].length,c1):=by
 obtain ⟨ad,e,hc⟩:=h.2.2 (by omega)
 obtain ⟨cs,h1,⟨A1,c1,rfl,h2,h3⟩,h4⟩:=hc n _ (List.getElem?_eq_getElem hn)
 refine ⟨ad,A1,c1,e,?_,⟨rfl,h2,h3⟩⟩
 have:=h4 0 _ rfl
 simpa [Kd.slice] using this
set_option maxHeartbeats 8000000 in
set_option maxRecDepth 100000 in
theorem copy_calls {c : S65} {a : CA} {w0 w : World} (hC0 : CR w0 c a) (hB0 : Below w0.heap.size w0 w) (hS : Short c) (hj : ∀ r ∈ c.f6,r.length ≤ 16384) : Calls Tryz.prog 42 #[.agg (cellsC c a)] w fun e w' => ∃ a',e = .returned (.agg (cellsC c a')) ∧ CP w' w0.heap.size w.heap.size c a' ∧ Below w.heap.size w w':=by
 have hu65:=Tryz.underlying29
 have HC:=A0_.mk (hC0.below hB0)
 have HC0:=A0_.mk hC0
 have HB0:=A0_.mk hB0
 have HS:=A0_.mk hS
 have HJL:=A0_.mk hj
 clear hC0 hB0 hS hj
 obtain ⟨A1,A2,A3,A4,A5,A6,A7,A8,A9,A10,c1,c2,c3,c4,c5,c6,c7,c8,c9,c10⟩:=a
 unfold cellsC
 go_enter Tryz.func42,Tryz.ntmps42
 go_upto_region 2 with (fail)
 have hcs : CS w (((w.alloc (.cells #[.int .i64 c.f0,.slice A1 c.f1.length c1,.slice A2 c.f2.length c2,.slice A3 c.f3.length c3,.slice A4 c.f4.length c4,.slice A5 c.f5.length c5,.slice A6 c.f6.length c6,.slice A7 c.f7.length c7,.slice A8 c.f8.length c8,.slice A9 c.f9.length c9,.slice A10 c.f10.length c10] 29)).alloc (.cells #[.int .i64 0,.slice none 0 0,.slice none 0 0,.slice none 0 0,.slice none 0 0,.slice none 0 0,.slice none 0 0,.slice none 0 0,.slice none 0 0,.slice none 0 0,.slice none 0 0] 29)).alloc (.cells #[.int .i64 c.f0,.slice A1 c.f1.length c1,.slice A2 c.f2.length c2,.slice A3 c.f3.length c3,.slice A4 c.f4.length c4,.slice A5 c.f5.length c5,.slice A6 c.f6.length c6,.slice A7 c.f7.length c7,.slice A8 c.f8.length c8,.slice A9 c.f9.length c9,.slice A10 c.f10.length c10] 29)) c ⟨A1,A2,A3,A4,A5,A6,A7,A8,A9,A10,c1,c2,c3,c4,c5,c6,c7,c8,c9,c10⟩ w.heap.size (w.heap.size + 1) (w.heap.size + 1 + 1) #[.int .i64 c.f0,.slice A1 c.f1.length c1,.slice A2 c.f2.length c2,.slice A3 c.f3.length c3,.slice A4 c.f4.length c4,.slice A5 c.f5.length c5,.slice A6 c.f6.length c6,.slice A7 c.f7.length c7,.slice A8 c.f8.length c8,.slice A9 c.f9.length c9,.slice A10 c.f10.length c10]:=⟨eA_ (eA_ (eA_ (Below.refl _ _) _) _) _,bA_ (bA_ (blk_new w _) _) _,by have:=bA_ (blk_new (w.alloc (.cells #[.int .i64 c.f0,.slice A1 c.f1.length c1,.slice A2 c.f2.length c2,.slice A3 c.f3.length c3,.slice A4 c.f4.length c4,.slice A5 c.f5.length c5,.slice A6 c.f6.length c6,.slice A7 c.f7.length c7,.slice A8 c.f8.length c8,.slice A9 c.f9.length c9,.slice A10 c.f10.length c10] 29)) (.cells #[.int .i64 0,.slice none 0 0,.slice none 0 0,.slice none 0 0,.slice none 0 0,.slice none 0 0,.slice none 0 0,.slice none 0 0,.slice none 0 0,.slice none 0 0,.slice none 0 0] 29)) (.cells #[.int .i64 c.f0,.slice A1 c.f1.length c1,.slice A2 c.f2.length c2,.slice A3 c.f3.length c3,.slice A4 c.f4.length c4,.slice A5 c.f5.length c5,.slice A6 c.f6.length c6,.slice A7 c.f7.length c7,.slice A8 c.f8.length c8,.slice A9 c.f9.length c9,.slice A10 c.f10.length c10] 29);rw [World.size_alloc] at this;exact this,by have:=blk_new ((w.alloc (.cells #[.int .i64 c.f0,.slice A1 c.f1.length c1,.slice A2 c.f2.length c2,.slice A3 c.f3.length c3,.slice A4 c.f4.length c4,.slice A5 c.f5.length c5,.slice A6 c.f6.length c6,.slice A7 c.f7.length c7,.slice A8 c.f8.length c8,.slice A9 c.f9.length c9,.slice A10 c.f10.length c10] 29)).alloc (.cells #[.int .i64 0,.slice none 0 0,.slice none 0 0,.slice none 0 0,.slice none 0 0,.slice none 0 0,.slice none 0 0,.slice none 0 0,.slice none 0 0,.slice none 0 0,.slice none 0 0] 29)) (.cells #[.int .i64 c.f0,.slice A1 c.f1.length c1,.slice A2 c.f2.length c2,.slice A3 c.f3.length c3,.slice A4 c.f4.length c4,.slice A5 c.f5.length c5,.slice A6 c.f6.length c6,.slice A7 c.f7.length c7,.slice A8 c.f8.length c8,.slice A9 c.f9.length c9,.slice A10 c.f10.length c10] 29);rw [World.size_alloc,World.size_alloc] at this;exact this,Nat.le_refl _,by omega,by omega,by omega,by omega,by omega⟩
 have HB2 : A0_ (w.heap.size + 1 = w.heap.size + 1):=⟨rfl⟩
 obtain ⟨b3,hb3⟩ : ∃ b,w.heap.size + 1 + 1 = b:=⟨_,rfl⟩
 rw [hb3] at hcs ⊢
 clear hb3
 obtain ⟨b2,hb2⟩ : ∃ b,w.heap.size + 1 = b:=⟨_,rfl⟩
 rw [hb2] at hcs ⊢
 clear hb2 HB2
 obtain ⟨b1,hb1⟩ : ∃ b,w.heap.size = b:=⟨_,rfl⟩
 have hcs2 : CS w (((w.alloc (.cells #[.int .i64 c.f0,.slice A1 c.f1.length c1,.slice A2 c.f2.length c2,.slice A3 c.f3.length c3,.slice A4 c.f4.length c4,.slice A5 c.f5.length c5,.slice A6 c.f6.length c6,.slice A7 c.f7.length c7,.slice A8 c.f8.length c8,.slice A9 c.f9.length c9,.slice A10 c.f10.length c10] 29)).alloc (.cells #[.int .i64 0,.slice none 0 0,.slice none 0 0,.slice none 0 0,.slice none 0 0,.slice none 0 0,.slice none 0 0,.slice none 0 0,.slice none 0 0,.slice none 0 0,.slice none 0 0] 29)).alloc (.cells #[.int .i64 c.f0,.slice A1 c.f1.length c1,.slice A2 c.f2.length c2,.slice A3 c.f3.length c3,.slice A4 c.f4.length c4,.slice A5 c.f5.length c5,.slice A6 c.f6.length c6,.slice A7 c.f7.length c7,.slice A8 c.f8.length c8,.slice A9 c.f9.length c9,.slice A10 c.f10.length c10] 29)) c ⟨A1,A2,A3,A4,A5,A6,A7,A8,A9,A10,c1,c2,c3,c4,c5,c6,c7,c8,c9,c10⟩ b1 b2 b3 #[.int .i64 c.f0,.slice A1 c.f1.length c1,.slice A2 c.f2.length c2,.slice A3 c.f3.length c3,.slice A4 c.f4.length c4,.slice A5 c.f5.length c5,.slice A6 c.f6.length c6,.slice A7 c.f7.length c7,.slice A8 c.f8.length c8,.slice A9 c.f9.length c9,.slice A10 c.f10.length c10]:=by have:=hcs;rw [hb1] at this;exact hb1 ▸ hcs
 rw [hb1]
 clear hb1 hcs
 have HCS0:=A0_.mk hcs2
 clear hcs2
 generalize ((w.alloc (.cells #[.int .i64 c.f0,.slice A1 c.f1.length c1,.slice A2 c.f2.length c2,.slice A3 c.f3.length c3,.slice A4 c.f4.length c4,.slice A5 c.f5.length c5,.slice A6 c.f6.length c6,.slice A7 c.f7.length c7,.slice A8 c.f8.length c8,.slice A9 c.f9.length c9,.slice A10 c.f10.length c10] 29)).alloc (.cells #[.int .i64 0,.slice none 0 0,.slice none 0 0,.slice none 0 0,.slice none 0 0,.slice none 0 0,.slice none 0 0,.slice none 0 0,.slice none 0 0,.slice none 0 0,.slice none 0 0] 29)).alloc (.cells #[.int .i64 c.f0,.slice A1 c.f1.length c1,.slice A2 c.f2.length c2,.slice A3 c.f3.length c3,.slice A4 c.f4.length c4,.slice A5 c.f5.length c5,.slice A6 c.f6.length c6,.slice A7 c.f7.length c7,.slice A8 c.f8.length c8,.slice A9 c.f9.length c9,.slice A10 c.f10.length c10] 29) = W0 at HCS0 ⊢
 have HR0 : A0_ (AllR W0 w.heap.size []):=⟨AllR.nil _ _⟩
 have hd:=below_drew (Below.refl W0.heap.size W0)
 have HCSd:=A0_.mk (HCS0.out.call hd)
 have HRd:=A0_.mk (HR0.out.below hd)
 clear hd HCS0 HR0
 refine wp_normal' ?_
 refine start_ (n:=20) (S:=fun w' => BX w' b1 c ⟨A1,A2,A3,A4,A5,A6,A7,A8,A9,A10,c1,c2,c3,c4,c5,c6,c7,c8,c9,c10⟩) (ds:=[]) (Array.replicate 20 false) (by kernel_rfl) rfl rfl HCSd.out.x1 (fun hHeld => ?_)
 have HCS1:=HCSd
 have HR1:=HRd
 clear HCSd HRd
 generalize W0.drew = W1 at HCS1 HR1 hHeld ⊢
 refine pure_ (i:=0) (N:=some 7) (v:=?_) (a':=?_) (zA_ 20 1) rfl rfl (by kernel_rfl) (fun _ _ _ h => by cases h.1) (Or.inl ⟨by rfl,?_⟩) ?_ ?_
 rotate_left
 ·intro w'
  go_simp
  with_reducible rfl
 rotate_left
 ·simp only [Act.put,sA_,sB_,sC_]
  rfl
 refine take_ (i:=1) (N:=some 8) (v:=?_) (a':=?_) (zA_ 20 3) rfl rfl (by kernel_rfl) (fun _ _ _ h => by cases h.1) (Or.inl ⟨by rfl,?_⟩) hHeld ?_ ?_
 rotate_left
 ·intro w' s_
  have y1 : w'.cell? ⟨b1,1,none⟩ = some (.slice A1 c.f1.length c1):=(BX.cell s_ 1).trans rfl
  go_simp
  with_reducible rfl
 rotate_left
 ·simp only [Act.put,sA_,sB_,sC_]
  rfl
 refine pure_ (i:=3) (N:=some 10) (v:=?_) (a':=?_) (zA_ 20 11) rfl rfl (by kernel_rfl) (fun _ _ _ h => by cases h.1) (Or.inl ⟨by rfl,?_⟩) ?_ ?_
 rotate_left
 ·intro w'
  go_simp
  with_reducible rfl
 rotate_left
 ·simp only [Act.put,sA_,sB_,sC_]
  rfl
 refine take_ (i:=4) (N:=some 11) (v:=?_) (a':=?_) (zA_ 20 27) rfl rfl (by kernel_rfl) (fun _ _ _ h => by cases h.1) (Or.inl ⟨by rfl,?_⟩) hHeld ?_ ?_
 rotate_left
 ·intro w' s_
  have y2 : w'.cell? ⟨b1,2,none⟩ = some (.slice A2 c.f2.length c2):=(BX.cell s_ 2).trans rfl
  go_simp
  with_reducible rfl
 rotate_left
 ·simp only [Act.put,sA_,sB_,sC_]
  rfl
 refine pure_ (i:=6) (N:=some 13) (v:=?_) (a':=?_) (zA_ 20 91) rfl rfl (by kernel_rfl) (fun _ _ _ h => by cases h.1) (Or.inl ⟨by rfl,?_⟩) ?_ ?_
 rotate_left
 ·intro w'
  go_simp
  with_reducible rfl
 rotate_left
 ·simp only [Act.put,sA_,sB_,sC_]
  rfl
 refine take_ (i:=7) (N:=some 14) (v:=?_) (a':=?_) (zA_ 20 219) rfl rfl (by kernel_rfl) (fun _ _ _ h => by cases h.1) (Or.inl ⟨by rfl,?_⟩) hHeld ?_ ?_
 rotate_left
 ·intro w' s_
  have y3 : w'.cell? ⟨b1,3,none⟩ = some (.slice A3 c.f3.length c3):=(BX.cell s_ 3).trans rfl
  go_simp
  with_reducible rfl
 rotate_left
 ·simp only [Act.put,sA_,sB_,sC_]
  rfl
 refine pure_ (i:=9) (N:=some 16) (v:=?_) (a':=?_) (zA_ 20 731) rfl rfl (by kernel_rfl) (fun _ _ _ h => by cases h.1) (Or.inl ⟨by rfl,?_⟩) ?_ ?_
 rotate_left
 ·intro w'
  go_simp
  with_reducible rfl
 rotate_left
 ·simp only [Act.put,sA_,sB_,sC_]
  rfl
 refine take_ (i:=10) (N:=some 17) (v:=?_) (a':=?_) (zA_ 20 1755) rfl rfl (by kernel_rfl) (fun _ _ _ h => by cases h.1) (Or.inl ⟨by rfl,?_⟩) hHeld ?_ ?_
 rotate_left
 ·intro w' s_
  have y4 : w'.cell? ⟨b1,4,none⟩ = some (.slice A4 c.f4.length c4):=(BX.cell s_ 4).trans rfl
  go_simp
  with_reducible rfl
 rotate_left
 ·simp only [Act.put,sA_,sB_,sC_]
  rfl
 refine one_ (i:=2) (N:=some 9) (zA_ 20 1759) rfl rfl (by kernel_rfl) (by decide) (fun K hK => ?_)
 refine goes_ Tryz.func69 (by kernel_rfl) rfl #[.slice A1 c.f1.length c1] (by rfl) rfl rfl (by (try simp only [List.map_toArray,List.map_cons,List.map_nil]);first|done|rfl) ?_
 refine (clone69_calls (cp:=c1) (Kd.C_below HC.out.r1 HCS1.out.below) (by have:=HS.out.l1;omega)).mono ?_
 rintro e W2 ⟨v,rfl,hr,hb⟩
 obtain ⟨B1,d1,rfl⟩:=Kd.R_slice hr
 have HCS2:=A0_.mk (HCS1.out.call hb)
 have HR2:=A0_.mk ((HR1.out.below hb).cons (r:=rI (.slice B1 c.f1.length d1) c.f1) (Kd.R_lower hr HCS1.out.below.size))
 clear hr hb HCS1 HR1
 refine ⟨_,rfl,hK.out _ _ HCS2.out.x1 (fun hHeld2 => ?_)⟩
 clear hK K hHeld
 have hHeld:=hHeld2
 clear hHeld2
 refine norm_ (a':=?_) ?_ ?_
 rotate_left
 ·show Act.put _ (some 9) _ = _
  simp only [Act.put,sA_,sB_,sC_]
  rfl
 refine pure_ (i:=12) (N:=some 19) (v:=?_) (a':=?_) (zA_ 20 5855) rfl rfl (by kernel_rfl) (fun _ _ _ h => by cases h.1) (Or.inl ⟨by rfl,?_⟩) ?_ ?_
 rotate_left
 ·intro w'
  go_simp
  with_reducible rfl
 rotate_left
 ·simp only [Act.put,sA_,sB_,sC_]
  rfl
 refine one_ (i:=5) (N:=some 12) (zA_ 20 5887) rfl rfl (by kernel_rfl) (by decide) (fun K hK => ?_)
 refine goes_ Tryz.func70 (by kernel_rfl) rfl #[.slice A2 c.f2.length c2] (by rfl) rfl rfl (by (try simp only [List.map_toArray,List.map_cons,List.map_nil]);first|done|rfl) ?_
 refine (clone70_calls (cp:=c2) (Kd.C_below HC.out.r2 HCS2.out.below) (by have:=HS.out.l2;omega)).mono ?_
 rintro e W3 ⟨v,rfl,hr,hb⟩
 obtain ⟨B2,d2,rfl⟩:=Kd.R_slice hr
 have HCS3:=A0_.mk (HCS2.out.call hb)
 have HR3:=A0_.mk ((HR2.out.below hb).cons (r:=rL (.slice B2 c.f2.length d2) c.f2) (Kd.R_lower hr HCS2.out.below.size))
 clear hr hb HCS2 HR2
 refine ⟨_,rfl,hK.out _ _ HCS3.out.x1 (fun hHeld2 => ?_)⟩
 clear hK K hHeld
 have hHeld:=hHeld2
 clear hHeld2
 refine norm_ (a':=?_) ?_ ?_
 rotate_left
 ·show Act.put _ (some 12) _ = _
  simp only [Act.put,sA_,sB_,sC_]
  rfl
 refine one_ (i:=8) (N:=some 15) (zA_ 20 6143) rfl rfl (by kernel_rfl) (by decide) (fun K hK => ?_)
 refine goes_ Tryz.func69 (by kernel_rfl) rfl #[.slice A3 c.f3.length c3] (by rfl) rfl rfl (by (try simp only [List.map_toArray,List.map_cons,List.map_nil]);first|done|rfl) ?_
 refine (clone69_calls (cp:=c3) (Kd.C_below HC.out.r3 HCS3.out.below) (by have:=HS.out.l3;omega)).mono ?_
 rintro e W4 ⟨v,rfl,hr,hb⟩
 obtain ⟨B3,d3,rfl⟩:=Kd.R_slice hr
 have HCS4:=A0_.mk (HCS3.out.call hb)
 have HR4:=A0_.mk ((HR3.out.below hb).cons (r:=rI (.slice B3 c.f3.length d3) c.f3) (Kd.R_lower hr HCS3.out.below.size))
 clear hr hb HCS3 HR3
 refine ⟨_,rfl,hK.out _ _ HCS4.out.x1 (fun hHeld2 => ?_)⟩
 clear hK K hHeld
 have hHeld:=hHeld2
 clear hHeld2
 refine norm_ (a':=?_) ?_ ?_
 rotate_left
 ·show Act.put _ (some 15) _ = _
  simp only [Act.put,sA_,sB_,sC_]
  rfl
 refine one_ (i:=11) (N:=some 18) (zA_ 20 8191) rfl rfl (by kernel_rfl) (by decide) (fun K hK => ?_)
 refine goes_ Tryz.func69 (by kernel_rfl) rfl #[.slice A4 c.f4.length c4] (by rfl) rfl rfl (by (try simp only [List.map_toArray,List.map_cons,List.map_nil]);first|done|rfl) ?_
 refine (clone69_calls (cp:=c4) (Kd.C_below HC.out.r4 HCS4.out.below) (by have:=HS.out.l4;omega)).mono ?_
 rintro e W5 ⟨v,rfl,hr,hb⟩
 obtain ⟨B4,d4,rfl⟩:=Kd.R_slice hr
 have HCS5:=A0_.mk (HCS4.out.call hb)
 have HR5:=A0_.mk ((HR4.out.below hb).cons (r:=rI (.slice B4 c.f4.length d4) c.f4) (Kd.R_lower hr HCS4.out.below.size))
 clear hr hb HCS4 HR4
 refine ⟨_,rfl,hK.out _ _ HCS5.out.x1 (fun hHeld2 => ?_)⟩
 clear hK K hHeld
 have hHeld:=hHeld2
 clear hHeld2
 refine norm_ (a':=?_) ?_ ?_
 rotate_left
 ·show Act.put _ (some 18) _ = _
  simp only [Act.put,sA_,sB_,sC_]
  rfl
 have e3 : W5.cell? ⟨b3,1,none⟩ = some (.slice A1 c.f1.length c1):=bC_ HCS5.out.x3 1
 have z3:=bF_ HCS5.out.x3 1
 refine one_ (i:=13) (N:=none) (zA_ 20 16383) rfl rfl (by kernel_rfl) (by decide) (fun K hK => ?_)
 refine skip_ (w1:=W5.setCell ⟨b3,1,none⟩ (.slice B1 c.f1.length d1)) rfl rfl ?_ ?_
 ·go_simp
 have HCS6:=A0_.mk (HCS5.out.put 1 (.slice B1 c.f1.length d1) (cells':=#[.int .i64 c.f0,.slice B1 c.f1.length d1,.slice A2 c.f2.length c2,.slice A3 c.f3.length c3,.slice A4 c.f4.length c4,.slice A5 c.f5.length c5,.slice A6 c.f6.length c6,.slice A7 c.f7.length c7,.slice A8 c.f8.length c8,.slice A9 c.f9.length c9,.slice A10 c.f10.length c10]) rfl)
 have HR6:=A0_.mk (HR5.out.set29 (j:=1) HCS5.out.x3 (.slice B1 c.f1.length d1))
 clear HCS5 HR5 e3 z3
 refine hK.out _ _ HCS6.out.x1 (fun hHeld2 => ?_)
 clear hK K hHeld
 have hHeld:=hHeld2
 clear hHeld2
 generalize W5.setCell ⟨b3,1,none⟩ (.slice B1 c.f1.length d1) = W6 at HCS6 HR6 hHeld ⊢
 refine pure_ (i:=14) (N:=some 20) (v:=?_) (a':=?_) (zA_ 20 32767) rfl rfl (by kernel_rfl) (fun _ _ _ h => by cases h.1) (Or.inl ⟨by rfl,?_⟩) ?_ ?_
 rotate_left
 ·intro w'
  go_simp
  with_reducible rfl
 rotate_left
 ·simp only [Act.put,sA_,sB_,sC_]
  rfl
 have e3 : W6.cell? ⟨b3,2,none⟩ = some (.slice A2 c.f2.length c2):=bC_ HCS6.out.x3 2
 have z3:=bF_ HCS6.out.x3 2
 refine one_ (i:=15) (N:=none) (zA_ 20 65535) rfl rfl (by kernel_rfl) (by decide) (fun K hK => ?_)
 refine skip_ (w1:=W6.setCell ⟨b3,2,none⟩ (.slice B2 c.f2.length d2)) rfl rfl ?_ ?_
 ·go_simp
 have HCS7:=A0_.mk (HCS6.out.put 2 (.slice B2 c.f2.length d2) (cells':=#[.int .i64 c.f0,.slice B1 c.f1.length d1,.slice B2 c.f2.length d2,.slice A3 c.f3.length c3,.slice A4 c.f4.length c4,.slice A5 c.f5.length c5,.slice A6 c.f6.length c6,.slice A7 c.f7.length c7,.slice A8 c.f8.length c8,.slice A9 c.f9.length c9,.slice A10 c.f10.length c10]) rfl)
 have HR7:=A0_.mk (HR6.out.set29 (j:=2) HCS6.out.x3 (.slice B2 c.f2.length d2))
 clear HCS6 HR6 e3 z3
 refine hK.out _ _ HCS7.out.x1 (fun hHeld2 => ?_)
 clear hK K hHeld
 have hHeld:=hHeld2
 clear hHeld2
 generalize W6.setCell ⟨b3,2,none⟩ (.slice B2 c.f2.length d2) = W7 at HCS7 HR7 hHeld ⊢
 refine pure_ (i:=16) (N:=some 21) (v:=?_) (a':=?_) (zA_ 20 131071) rfl rfl (by kernel_rfl) (fun _ _ _ h => by cases h.1) (Or.inl ⟨by rfl,?_⟩) ?_ ?_
 rotate_left
 ·intro w'
  go_simp
  with_reducible rfl
 rotate_left
 ·simp only [Act.put,sA_,sB_,sC_]
  rfl
 have e3 : W7.cell? ⟨b3,3,none⟩ = some (.slice A3 c.f3.length c3):=bC_ HCS7.out.x3 3
 have z3:=bF_ HCS7.out.x3 3
 refine one_ (i:=17) (N:=none) (zA_ 20 262143) rfl rfl (by kernel_rfl) (by decide) (fun K hK => ?_)
 refine skip_ (w1:=W7.setCell ⟨b3,3,none⟩ (.slice B3 c.f3.length d3)) rfl rfl ?_ ?_
 ·go_simp
 have HCS8:=A0_.mk (HCS7.out.put 3 (.slice B3 c.f3.length d3) (cells':=#[.int .i64 c.f0,.slice B1 c.f1.length d1,.slice B2 c.f2.length d2,.slice B3 c.f3.length d3,.slice A4 c.f4.length c4,.slice A5 c.f5.length c5,.slice A6 c.f6.length c6,.slice A7 c.f7.length c7,.slice A8 c.f8.length c8,.slice A9 c.f9.length c9,.slice A10 c.f10.length c10]) rfl)
 have HR8:=A0_.mk (HR7.out.set29 (j:=3) HCS7.out.x3 (.slice B3 c.f3.length d3))
 clear HCS7 HR7 e3 z3
 refine hK.out _ _ HCS8.out.x1 (fun hHeld2 => ?_)
 clear hK K hHeld
 have hHeld:=hHeld2
 clear hHeld2
 generalize W7.setCell ⟨b3,3,none⟩ (.slice B3 c.f3.length d3) = W8 at HCS8 HR8 hHeld ⊢
 refine pure_ (i:=18) (N:=some 22) (v:=?_) (a':=?_) (zA_ 20 524287) rfl rfl (by kernel_rfl) (fun _ _ _ h => by cases h.1) (Or.inl ⟨by rfl,?_⟩) ?_ ?_
 rotate_left
 ·intro w'
  go_simp
  with_reducible rfl
 rotate_left
 ·simp only [Act.put,sA_,sB_,sC_]
  rfl
 have e3 : W8.cell? ⟨b3,4,none⟩ = some (.slice A4 c.f4.length c4):=bC_ HCS8.out.x3 4
 have z3:=bF_ HCS8.out.x3 4
 refine one_ (i:=19) (N:=none) (zA_ 20 1048575) rfl rfl (by kernel_rfl) (by decide) (fun K hK => ?_)
 refine skip_ (w1:=W8.setCell ⟨b3,4,none⟩ (.slice B4 c.f4.length d4)) rfl rfl ?_ ?_
 ·go_simp
 have HCS9:=A0_.mk (HCS8.out.put 4 (.slice B4 c.f4.length d4) (cells':=#[.int .i64 c.f0,.slice B1 c.f1.length d1,.slice B2 c.f2.length d2,.slice B3 c.f3.length d3,.slice B4 c.f4.length d4,.slice A5 c.f5.length c5,.slice A6 c.f6.length c6,.slice A7 c.f7.length c7,.slice A8 c.f8.length c8,.slice A9 c.f9.length c9,.slice A10 c.f10.length c10]) rfl)
 have HR9:=A0_.mk (HR8.out.set29 (j:=4) HCS8.out.x3 (.slice B4 c.f4.length d4))
 clear HCS8 HR8 e3 z3
 refine hK.out _ _ HCS9.out.x1 (fun hHeld2 => ?_)
 clear hK K hHeld
 have hHeld:=hHeld2
 clear hHeld2
 generalize W8.setCell ⟨b3,4,none⟩ (.slice B4 c.f4.length d4) = W9 at HCS9 HR9 hHeld ⊢
 clear hHeld
 refine done_ (by kernel_rfl) ?_
 refine ⟨rfl,?_⟩
 rename_i hKK
 refine hKK _ _ ?_
 clear hKK
 go_upto_region 3 with (fail)
 have hd:=below_drew (Below.refl W9.heap.size W9)
 have HCSd:=A0_.mk (HCS9.out.call hd)
 have HRd:=A0_.mk (HR9.out.below hd)
 clear hd HCS9 HR9
 refine wp_normal' ?_
 refine start_ (n:=15) (S:=fun w' => BX w' b1 c ⟨A1,A2,A3,A4,A5,A6,A7,A8,A9,A10,c1,c2,c3,c4,c5,c6,c7,c8,c9,c10⟩) (ds:=[]) (Array.replicate 15 false) (by kernel_rfl) rfl rfl HCSd.out.x1 (fun hHeld => ?_)
 have HCS10:=HCSd
 have HR10:=HRd
 clear HCSd HRd
 generalize W9.drew = W10 at HCS10 HR10 hHeld ⊢
 refine pure_ (i:=0) (N:=some 23) (v:=?_) (a':=?_) (zA_ 15 1) rfl rfl (by kernel_rfl) (fun _ _ _ h => by cases h.1) (Or.inl ⟨by rfl,?_⟩) ?_ ?_
 rotate_left
 ·intro w'
  go_simp
  with_reducible rfl
 rotate_left
 ·simp only [Act.put,sA_,sB_,sC_]
  rfl
 refine take_ (i:=1) (N:=some 24) (v:=?_) (a':=?_) (zA_ 15 3) rfl rfl (by kernel_rfl) (fun _ _ _ h => by cases h.1) (Or.inl ⟨by rfl,?_⟩) hHeld ?_ ?_
 rotate_left
 ·intro w' s_
  have y5 : w'.cell? ⟨b1,5,none⟩ = some (.slice A5 c.f5.length c5):=(BX.cell s_ 5).trans rfl
  go_simp
  with_reducible rfl
 rotate_left
 ·simp only [Act.put,sA_,sB_,sC_]
  rfl
 refine pure_ (i:=3) (N:=some 26) (v:=?_) (a':=?_) (zA_ 15 11) rfl rfl (by kernel_rfl) (fun _ _ _ h => by cases h.1) (Or.inl ⟨by rfl,?_⟩) ?_ ?_
 rotate_left
 ·intro w'
  go_simp
  with_reducible rfl
 rotate_left
 ·simp only [Act.put,sA_,sB_,sC_]
  rfl
 refine take_ (i:=4) (N:=some 27) (v:=?_) (a':=?_) (zA_ 15 27) rfl rfl (by kernel_rfl) (fun _ _ _ h => by cases h.1) (Or.inl ⟨by rfl,?_⟩) hHeld ?_ ?_
 rotate_left
 ·intro w' s_
  have y7 : w'.cell? ⟨b1,7,none⟩ = some (.slice A7 c.f7.length c7):=(BX.cell s_ 7).trans rfl
  go_simp
  with_reducible rfl
 rotate_left
 ·simp only [Act.put,sA_,sB_,sC_]
  rfl
 refine pure_ (i:=6) (N:=some 29) (v:=?_) (a':=?_) (zA_ 15 91) rfl rfl (by kernel_rfl) (fun _ _ _ h => by cases h.1) (Or.inl ⟨by rfl,?_⟩) ?_ ?_
 rotate_left
 ·intro w'
  go_simp
  with_reducible rfl
 rotate_left
 ·simp only [Act.put,sA_,sB_,sC_]
  rfl
 refine take_ (i:=7) (N:=some 30) (v:=?_) (a':=?_) (zA_ 15 219) rfl rfl (by kernel_rfl) (fun _ _ _ h => by cases h.1) (Or.inl ⟨by rfl,?_⟩) hHeld ?_ ?_
 rotate_left
 ·intro w' s_
  have y8 : w'.cell? ⟨b1,8,none⟩ = some (.slice A8 c.f8.length c8):=(BX.cell s_ 8).trans rfl
  go_simp
  with_reducible rfl
 rotate_left
 ·simp only [Act.put,sA_,sB_,sC_]
  rfl
 refine one_ (i:=2) (N:=some 25) (zA_ 15 223) rfl rfl (by kernel_rfl) (by decide) (fun K hK => ?_)
 refine goes_ Tryz.func69 (by kernel_rfl) rfl #[.slice A5 c.f5.length c5] (by rfl) rfl rfl (by (try simp only [List.map_toArray,List.map_cons,List.map_nil]);first|done|rfl) ?_
 refine (clone69_calls (cp:=c5) (Kd.C_below HC.out.r5 HCS10.out.below) (by have:=HS.out.l5;omega)).mono ?_
 rintro e W11 ⟨v,rfl,hr,hb⟩
 obtain ⟨B5,d5,rfl⟩:=Kd.R_slice hr
 have HCS11:=A0_.mk (HCS10.out.call hb)
 have HR11:=A0_.mk ((HR10.out.below hb).cons (r:=rI (.slice B5 c.f5.length d5) c.f5) (Kd.R_lower hr HCS10.out.below.size))
 clear hr hb HCS10 HR10
 refine ⟨_,rfl,hK.out _ _ HCS11.out.x1 (fun hHeld2 => ?_)⟩
 clear hK K hHeld
 have hHeld:=hHeld2
 clear hHeld2
 refine norm_ (a':=?_) ?_ ?_
 rotate_left
 ·show Act.put _ (some 25) _ = _
  simp only [Act.put,sA_,sB_,sC_]
  rfl
 refine pure_ (i:=9) (N:=some 32) (v:=?_) (a':=?_) (zA_ 15 735) rfl rfl (by kernel_rfl) (fun _ _ _ h => by cases h.1) (Or.inl ⟨by rfl,?_⟩) ?_ ?_
 rotate_left
 ·intro w'
  go_simp
  with_reducible rfl
 rotate_left
 ·simp only [Act.put,sA_,sB_,sC_]
  rfl
 refine one_ (i:=5) (N:=some 28) (zA_ 15 767) rfl rfl (by kernel_rfl) (by decide) (fun K hK => ?_)
 refine goes_ Tryz.func69 (by kernel_rfl) rfl #[.slice A7 c.f7.length c7] (by rfl) rfl rfl (by (try simp only [List.map_toArray,List.map_cons,List.map_nil]);first|done|rfl) ?_
 refine (clone69_calls (cp:=c7) (Kd.C_below HC.out.r7 HCS11.out.below) (by have:=HS.out.l7;omega)).mono ?_
 rintro e W12 ⟨v,rfl,hr,hb⟩
 obtain ⟨B7,d7,rfl⟩:=Kd.R_slice hr
 have HCS12:=A0_.mk (HCS11.out.call hb)
 have HR12:=A0_.mk ((HR11.out.below hb).cons (r:=rI (.slice B7 c.f7.length d7) c.f7) (Kd.R_lower hr HCS11.out.below.size))
 clear hr hb HCS11 HR11
 refine ⟨_,rfl,hK.out _ _ HCS12.out.x1 (fun hHeld2 => ?_)⟩
 clear hK K hHeld
 have hHeld:=hHeld2
 clear hHeld2
 refine norm_ (a':=?_) ?_ ?_
 rotate_left
 ·show Act.put _ (some 28) _ = _
  simp only [Act.put,sA_,sB_,sC_]
  rfl
 refine one_ (i:=8) (N:=some 31) (zA_ 15 1023) rfl rfl (by kernel_rfl) (by decide) (fun K hK => ?_)
 refine goes_ Tryz.func71 (by kernel_rfl) rfl #[.slice A8 c.f8.length c8] (by rfl) rfl rfl (by (try simp only [List.map_toArray,List.map_cons,List.map_nil]);first|done|rfl) ?_
 refine (clone71_calls (cp:=c8) (Kd.C_below HC.out.r8 HCS12.out.below) (by have:=HS.out.l8;omega)).mono ?_
 rintro e W13 ⟨v,rfl,hr,hb⟩
 obtain ⟨B8,d8,rfl⟩:=Kd.R_slice hr
 have HCS13:=A0_.mk (HCS12.out.call hb)
 have HR13:=A0_.mk ((HR12.out.below hb).cons (r:=rA (.slice B8 c.f8.length d8) c.f8) (Kd.R_lower hr HCS12.out.below.size))
 clear hr hb HCS12 HR12
 refine ⟨_,rfl,hK.out _ _ HCS13.out.x1 (fun hHeld2 => ?_)⟩
 clear hK K hHeld
 have hHeld:=hHeld2
 clear hHeld2
 refine norm_ (a':=?_) ?_ ?_
 rotate_left
 ·show Act.put _ (some 31) _ = _
  simp only [Act.put,sA_,sB_,sC_]
  rfl
 have e3 : W13.cell? ⟨b3,5,none⟩ = some (.slice A5 c.f5.length c5):=bC_ HCS13.out.x3 5
 have z3:=bF_ HCS13.out.x3 5
 refine one_ (i:=10) (N:=none) (zA_ 15 2047) rfl rfl (by kernel_rfl) (by decide) (fun K hK => ?_)
 refine skip_ (w1:=W13.setCell ⟨b3,5,none⟩ (.slice B5 c.f5.length d5)) rfl rfl ?_ ?_
 ·go_simp
 have HCS14:=A0_.mk (HCS13.out.put 5 (.slice B5 c.f5.length d5) (cells':=#[.int .i64 c.f0,.slice B1 c.f1.length d1,.slice B2 c.f2.length d2,.slice B3 c.f3.length d3,.slice B4 c.f4.length d4,.slice B5 c.f5.length d5,.slice A6 c.f6.length c6,.slice A7 c.f7.length c7,.slice A8 c.f8.length c8,.slice A9 c.f9.length c9,.slice A10 c.f10.length c10]) rfl)
 have HR14:=A0_.mk (HR13.out.set29 (j:=5) HCS13.out.x3 (.slice B5 c.f5.length d5))
 clear HCS13 HR13 e3 z3
 refine hK.out _ _ HCS14.out.x1 (fun hHeld2 => ?_)
 clear hK K hHeld
 have hHeld:=hHeld2
 clear hHeld2
 generalize W13.setCell ⟨b3,5,none⟩ (.slice B5 c.f5.length d5) = W14 at HCS14 HR14 hHeld ⊢
 refine pure_ (i:=11) (N:=some 33) (v:=?_) (a':=?_) (zA_ 15 4095) rfl rfl (by kernel_rfl) (fun _ _ _ h => by cases h.1) (Or.inl ⟨by rfl,?_⟩) ?_ ?_
 rotate_left
 ·intro w'
  go_simp
  with_reducible rfl
 rotate_left
 ·simp only [Act.put,sA_,sB_,sC_]
  rfl
 have e3 : W14.cell? ⟨b3,7,none⟩ = some (.slice A7 c.f7.length c7):=bC_ HCS14.out.x3 7
 have z3:=bF_ HCS14.out.x3 7
 refine one_ (i:=12) (N:=none) (zA_ 15 8191) rfl rfl (by kernel_rfl) (by decide) (fun K hK => ?_)
 refine skip_ (w1:=W14.setCell ⟨b3,7,none⟩ (.slice B7 c.f7.length d7)) rfl rfl ?_ ?_
 ·go_simp
 have HCS15:=A0_.mk (HCS14.out.put 7 (.slice B7 c.f7.length d7) (cells':=#[.int .i64 c.f0,.slice B1 c.f1.length d1,.slice B2 c.f2.length d2,.slice B3 c.f3.length d3,.slice B4 c.f4.length d4,.slice B5 c.f5.length d5,.slice A6 c.f6.length c6,.slice B7 c.f7.length d7,.slice A8 c.f8.length c8,.slice A9 c.f9.length c9,.slice A10 c.f10.length c10]) rfl)
 have HR15:=A0_.mk (HR14.out.set29 (j:=7) HCS14.out.x3 (.slice B7 c.f7.length d7))
 clear HCS14 HR14 e3 z3
 refine hK.out _ _ HCS15.out.x1 (fun hHeld2 => ?_)
 clear hK K hHeld
 have hHeld:=hHeld2
 clear hHeld2
 generalize W14.setCell ⟨b3,7,none⟩ (.slice B7 c.f7.length d7) = W15 at HCS15 HR15 hHeld ⊢
 refine pure_ (i:=13) (N:=some 34) (v:=?_) (a':=?_) (zA_ 15 16383) rfl rfl (by kernel_rfl) (fun _ _ _ h => by cases h.1) (Or.inl ⟨by rfl,?_⟩) ?_ ?_
 rotate_left
 ·intro w'
  go_simp
  with_reducible rfl
 rotate_left
 ·simp only [Act.put,sA_,sB_,sC_]
  rfl
 have e3 : W15.cell? ⟨b3,8,none⟩ = some (.slice A8 c.f8.length c8):=bC_ HCS15.out.x3 8
 have z3:=bF_ HCS15.out.x3 8
 refine one_ (i:=14) (N:=none) (zA_ 15 32767) rfl rfl (by kernel_rfl) (by decide) (fun K hK => ?_)
 refine skip_ (w1:=W15.setCell ⟨b3,8,none⟩ (.slice B8 c.f8.length d8)) rfl rfl ?_ ?_
 ·go_simp
 have HCS16:=A0_.mk (HCS15.out.put 8 (.slice B8 c.f8.length d8) (cells':=#[.int .i64 c.f0,.slice B1 c.f1.length d1,.slice B2 c.f2.length d2,.slice B3 c.f3.length d3,.slice B4 c.f4.length d4,.slice B5 c.f5.length d5,.slice A6 c.f6.length c6,.slice B7 c.f7.length d7,.slice B8 c.f8.length d8,.slice A9 c.f9.length c9,.slice A10 c.f10.length c10]) rfl)
 have HR16:=A0_.mk (HR15.out.set29 (j:=8) HCS15.out.x3 (.slice B8 c.f8.length d8))
 clear HCS15 HR15 e3 z3
 refine hK.out _ _ HCS16.out.x1 (fun hHeld2 => ?_)
 clear hK K hHeld
 have hHeld:=hHeld2
 clear hHeld2
 generalize W15.setCell ⟨b3,8,none⟩ (.slice B8 c.f8.length d8) = W16 at HCS16 HR16 hHeld ⊢
 clear hHeld
 refine done_ (by kernel_rfl) ?_
 refine ⟨rfl,?_⟩
 rename_i hKK
 refine hKK _ _ ?_
 clear hKK
 go_upto_region 4 with (fail)
 have hd:=below_drew (Below.refl W16.heap.size W16)
 have HCSd:=A0_.mk (HCS16.out.call hd)
 have HRd:=A0_.mk (HR16.out.below hd)
 clear hd HCS16 HR16
 refine wp_normal' ?_
 refine start_ (n:=15) (S:=fun w' => BX w' b1 c ⟨A1,A2,A3,A4,A5,A6,A7,A8,A9,A10,c1,c2,c3,c4,c5,c6,c7,c8,c9,c10⟩) (ds:=[]) (Array.replicate 15 false) (by kernel_rfl) rfl rfl HCSd.out.x1 (fun hHeld => ?_)
 have HCS17:=HCSd
 have HR17:=HRd
 clear HCSd HRd
 generalize W16.drew = W17 at HCS17 HR17 hHeld ⊢
 refine pure_ (i:=0) (N:=some 35) (v:=?_) (a':=?_) (zA_ 15 1) rfl rfl (by kernel_rfl) (fun _ _ _ h => by cases h.1) (Or.inl ⟨by rfl,?_⟩) ?_ ?_
 rotate_left
 ·intro w'
  go_simp
  with_reducible rfl
 rotate_left
 ·simp only [Act.put,sA_,sB_,sC_]
  rfl
 refine take_ (i:=1) (N:=some 36) (v:=?_) (a':=?_) (zA_ 15 3) rfl rfl (by kernel_rfl) (fun _ _ _ h => by cases h.1) (Or.inl ⟨by rfl,?_⟩) hHeld ?_ ?_
 rotate_left
 ·intro w' s_
  have y9 : w'.cell? ⟨b1,9,none⟩ = some (.slice A9 c.f9.length c9):=(BX.cell s_ 9).trans rfl
  go_simp
  with_reducible rfl
 rotate_left
 ·simp only [Act.put,sA_,sB_,sC_]
  rfl
 refine pure_ (i:=3) (N:=some 38) (v:=?_) (a':=?_) (zA_ 15 11) rfl rfl (by kernel_rfl) (fun _ _ _ h => by cases h.1) (Or.inl ⟨by rfl,?_⟩) ?_ ?_
 rotate_left
 ·intro w'
  go_simp
  with_reducible rfl
 rotate_left
 ·simp only [Act.put,sA_,sB_,sC_]
  rfl
 refine take_ (i:=4) (N:=some 39) (v:=?_) (a':=?_) (zA_ 15 27) rfl rfl (by kernel_rfl) (fun _ _ _ h => by cases h.1) (Or.inl ⟨by rfl,?_⟩) hHeld ?_ ?_
 rotate_left
 ·intro w' s_
  have y10 : w'.cell? ⟨b1,10,none⟩ = some (.slice A10 c.f10.length c10):=(BX.cell s_ 10).trans rfl
  go_simp
  with_reducible rfl
 rotate_left
 ·simp only [Act.put,sA_,sB_,sC_]
  rfl
 refine pure_ (i:=6) (N:=some 41) (v:=?_) (a':=?_) (zA_ 15 91) rfl rfl (by kernel_rfl) (fun _ _ _ h => by cases h.1) (Or.inl ⟨by rfl,?_⟩) ?_ ?_
 rotate_left
 ·intro w'
  go_simp
  with_reducible rfl
 rotate_left
 ·simp only [Act.put,sA_,sB_,sC_]
  rfl
 refine take_ (i:=7) (N:=some 42) (v:=?_) (a':=?_) (zA_ 15 219) rfl rfl (by kernel_rfl) (fun _ _ _ h => by cases h.1) (Or.inl ⟨by rfl,?_⟩) hHeld ?_ ?_
 rotate_left
 ·intro w' s_
  have y6 : w'.cell? ⟨b1,6,none⟩ = some (.slice A6 c.f6.length c6):=(BX.cell s_ 6).trans rfl
  go_simp
  with_reducible rfl
 rotate_left
 ·simp only [Act.put,sA_,sB_,sC_]
  rfl
 refine one_ (i:=2) (N:=some 37) (zA_ 15 223) rfl rfl (by kernel_rfl) (by decide) (fun K hK => ?_)
 refine goes_ Tryz.func72 (by kernel_rfl) rfl #[.slice A9 c.f9.length c9] (by rfl) rfl rfl (by (try simp only [List.map_toArray,List.map_cons,List.map_nil]);first|done|rfl) ?_
 refine (clone72_calls (cp:=c9) (Kd.C_below HC.out.r9 HCS17.out.below) (by have:=HS.out.l9;omega)).mono ?_
 rintro e W18 ⟨v,rfl,hr,hb⟩
 obtain ⟨B9,d9,rfl⟩:=Kd.R_slice hr
 have HCS18:=A0_.mk (HCS17.out.call hb)
 have HR18:=A0_.mk ((HR17.out.below hb).cons (r:=rS (.slice B9 c.f9.length d9) c.f9) (Kd.R_lower hr HCS17.out.below.size))
 clear hr hb HCS17 HR17
 refine ⟨_,rfl,hK.out _ _ HCS18.out.x1 (fun hHeld2 => ?_)⟩
 clear hK K hHeld
 have hHeld:=hHeld2
 clear hHeld2
 refine norm_ (a':=?_) ?_ ?_
 rotate_left
 ·show Act.put _ (some 37) _ = _
  simp only [Act.put,sA_,sB_,sC_]
  rfl
 refine pure_ (i:=9) (N:=some 44) (v:=?_) (a':=?_) (zA_ 15 735) rfl rfl (by kernel_rfl) (fun _ _ _ h => by cases h.1) (Or.inl ⟨by rfl,?_⟩) ?_ ?_
 rotate_left
 ·intro w'
  go_simp
  with_reducible rfl
 rotate_left
 ·simp only [Act.put,sA_,sB_,sC_]
  rfl
 refine one_ (i:=5) (N:=some 40) (zA_ 15 767) rfl rfl (by kernel_rfl) (by decide) (fun K hK => ?_)
 refine goes_ Tryz.func73 (by kernel_rfl) rfl #[.slice A10 c.f10.length c10] (by rfl) rfl rfl (by (try simp only [List.map_toArray,List.map_cons,List.map_nil]);first|done|rfl) ?_
 refine (clone73_calls (cp:=c10) (Kd.C_below HC.out.r10 HCS18.out.below) (by have:=HS.out.l10;omega)).mono ?_
 rintro e W19 ⟨v,rfl,hr,hb⟩
 obtain ⟨B10,d10,rfl⟩:=Kd.R_slice hr
 have HCS19:=A0_.mk (HCS18.out.call hb)
 have HR19:=A0_.mk ((HR18.out.below hb).cons (r:=rT (.slice B10 c.f10.length d10) c.f10) (Kd.R_lower hr HCS18.out.below.size))
 clear hr hb HCS18 HR18
 refine ⟨_,rfl,hK.out _ _ HCS19.out.x1 (fun hHeld2 => ?_)⟩
 clear hK K hHeld
 have hHeld:=hHeld2
 clear hHeld2
 refine norm_ (a':=?_) ?_ ?_
 rotate_left
 ·show Act.put _ (some 40) _ = _
  simp only [Act.put,sA_,sB_,sC_]
  rfl
 obtain ⟨raws,hraw,hrl,hrd⟩:=raws_of HC0.out.r6
 have h74:=clone74_calls (cp:=c6) (show Kd.C kraw W19 A6 raws.length raws from by rw [hrl];exact Kd.C_below (Kd.C_below hraw HB0.out) HCS19.out.below) (by rw [hrl];have:=HS.out.l6;omega)
 rw [hrl] at h74
 have HRD:=A0_.mk hrd
 have HRL:=A0_.mk hrl
 clear hraw hrd hrl
 refine one_ (i:=8) (N:=some 43) (zA_ 15 1023) rfl rfl (by kernel_rfl) (by decide) (fun K hK => ?_)
 refine goes_ Tryz.func74 (by kernel_rfl) rfl #[.slice A6 c.f6.length c6] (by rfl) rfl rfl (by (try simp only [List.map_toArray,List.map_cons,List.map_nil]);first|done|rfl) ?_
 refine (h74).mono ?_
 rintro e W20 ⟨v,rfl,hr,hb⟩
 obtain ⟨B6,d6,rfl⟩:=Kd.R_slice hr
 rw [HRL.out] at hr ⊢
 have HCS20:=A0_.mk (HCS19.out.call hb)
 have HR20:=A0_.mk (HR19.out.below hb)
 have HJ20 : A0_ (JB W20 w0.heap.size w.heap.size (.slice B6 c.f6.length d6) c.f6 raws):=⟨⟨Kd.R_lower hr HCS19.out.below.size,HRL.out,fun i x p hx hp => ⟨((HRD.out i x p hx hp).below HB0.out).below HCS20.out.below,fun ad e hn => ⟨fun he => by have h1:=(HRD.out i x p hx hp).lt ad e hn;have h2:=Kd.R_base hr ad.block he.symm;have h3:=HCS19.out.below.size;have h4:=HB0.out.size;omega,.inl ((HRD.out i x p hx hp).lt ad e hn)⟩⟩⟩⟩
 clear h74 hr hb HCS19 HR19
 refine ⟨_,rfl,hK.out _ _ HCS20.out.x1 (fun hHeld2 => ?_)⟩
 clear hK K hHeld
 have hHeld:=hHeld2
 clear hHeld2
 refine norm_ (a':=?_) ?_ ?_
 rotate_left
 ·show Act.put _ (some 43) _ = _
  simp only [Act.put,sA_,sB_,sC_]
  rfl
 have e3 : W20.cell? ⟨b3,9,none⟩ = some (.slice A9 c.f9.length c9):=bC_ HCS20.out.x3 9
 have z3:=bF_ HCS20.out.x3 9
 refine one_ (i:=10) (N:=none) (zA_ 15 2047) rfl rfl (by kernel_rfl) (by decide) (fun K hK => ?_)
 refine skip_ (w1:=W20.setCell ⟨b3,9,none⟩ (.slice B9 c.f9.length d9)) rfl rfl ?_ ?_
 ·go_simp
 have HCS21:=A0_.mk (HCS20.out.put 9 (.slice B9 c.f9.length d9) (cells':=#[.int .i64 c.f0,.slice B1 c.f1.length d1,.slice B2 c.f2.length d2,.slice B3 c.f3.length d3,.slice B4 c.f4.length d4,.slice B5 c.f5.length d5,.slice A6 c.f6.length c6,.slice B7 c.f7.length d7,.slice B8 c.f8.length d8,.slice B9 c.f9.length d9,.slice A10 c.f10.length c10]) rfl)
 have HR21:=A0_.mk (HR20.out.set29 (j:=9) HCS20.out.x3 (.slice B9 c.f9.length d9))
 have HJ21:=A0_.mk (HJ20.out.set29 (j:=9) HCS20.out.x3 (Nat.le_trans HB0.out.size HCS20.out.l3) (.slice B9 c.f9.length d9))
 clear HCS20 HR20 e3 z3 HJ20
 refine hK.out _ _ HCS21.out.x1 (fun hHeld2 => ?_)
 clear hK K hHeld
 have hHeld:=hHeld2
 clear hHeld2
 generalize W20.setCell ⟨b3,9,none⟩ (.slice B9 c.f9.length d9) = W21 at HCS21 HR21 HJ21 hHeld ⊢
 refine pure_ (i:=11) (N:=some 45) (v:=?_) (a':=?_) (zA_ 15 4095) rfl rfl (by kernel_rfl) (fun _ _ _ h => by cases h.1) (Or.inl ⟨by rfl,?_⟩) ?_ ?_
 rotate_left
 ·intro w'
  go_simp
  with_reducible rfl
 rotate_left
 ·simp only [Act.put,sA_,sB_,sC_]
  rfl
 have e3 : W21.cell? ⟨b3,10,none⟩ = some (.slice A10 c.f10.length c10):=bC_ HCS21.out.x3 10
 have z3:=bF_ HCS21.out.x3 10
 refine one_ (i:=12) (N:=none) (zA_ 15 8191) rfl rfl (by kernel_rfl) (by decide) (fun K hK => ?_)
 refine skip_ (w1:=W21.setCell ⟨b3,10,none⟩ (.slice B10 c.f10.length d10)) rfl rfl ?_ ?_
 ·go_simp
 have HCS22:=A0_.mk (HCS21.out.put 10 (.slice B10 c.f10.length d10) (cells':=#[.int .i64 c.f0,.slice B1 c.f1.length d1,.slice B2 c.f2.length d2,.slice B3 c.f3.length d3,.slice B4 c.f4.length d4,.slice B5 c.f5.length d5,.slice A6 c.f6.length c6,.slice B7 c.f7.length d7,.slice B8 c.f8.length d8,.slice B9 c.f9.length d9,.slice B10 c.f10.length d10]) rfl)
 have HR22:=A0_.mk (HR21.out.set29 (j:=10) HCS21.out.x3 (.slice B10 c.f10.length d10))
 have HJ22:=A0_.mk (HJ21.out.set29 (j:=10) HCS21.out.x3 (Nat.le_trans HB0.out.size HCS21.out.l3) (.slice B10 c.f10.length d10))
 clear HCS21 HR21 e3 z3 HJ21
 refine hK.out _ _ HCS22.out.x1 (fun hHeld2 => ?_)
 clear hK K hHeld
 have hHeld:=hHeld2
 clear hHeld2
 generalize W21.setCell ⟨b3,10,none⟩ (.slice B10 c.f10.length d10) = W22 at HCS22 HR22 HJ22 hHeld ⊢
 refine pure_ (i:=13) (N:=some 46) (v:=?_) (a':=?_) (zA_ 15 16383) rfl rfl (by kernel_rfl) (fun _ _ _ h => by cases h.1) (Or.inl ⟨by rfl,?_⟩) ?_ ?_
 rotate_left
 ·intro w'
  go_simp
  with_reducible rfl
 rotate_left
 ·simp only [Act.put,sA_,sB_,sC_]
  rfl
 have e3 : W22.cell? ⟨b3,6,none⟩ = some (.slice A6 c.f6.length c6):=bC_ HCS22.out.x3 6
 have z3:=bF_ HCS22.out.x3 6
 refine one_ (i:=14) (N:=none) (zA_ 15 32767) rfl rfl (by kernel_rfl) (by decide) (fun K hK => ?_)
 refine skip_ (w1:=W22.setCell ⟨b3,6,none⟩ (.slice B6 c.f6.length d6)) rfl rfl ?_ ?_
 ·go_simp
 have HCS23:=A0_.mk (HCS22.out.put 6 (.slice B6 c.f6.length d6) (cells':=#[.int .i64 c.f0,.slice B1 c.f1.length d1,.slice B2 c.f2.length d2,.slice B3 c.f3.length d3,.slice B4 c.f4.length d4,.slice B5 c.f5.length d5,.slice B6 c.f6.length d6,.slice B7 c.f7.length d7,.slice B8 c.f8.length d8,.slice B9 c.f9.length d9,.slice B10 c.f10.length d10]) rfl)
 have HR23:=A0_.mk (HR22.out.set29 (j:=6) HCS22.out.x3 (.slice B6 c.f6.length d6))
 have HJ23:=A0_.mk (HJ22.out.set29 (j:=6) HCS22.out.x3 (Nat.le_trans HB0.out.size HCS22.out.l3) (.slice B6 c.f6.length d6))
 clear HCS22 HR22 e3 z3 HJ22
 refine hK.out _ _ HCS23.out.x1 (fun hHeld2 => ?_)
 clear hK K hHeld
 have hHeld:=hHeld2
 clear hHeld2
 generalize W22.setCell ⟨b3,6,none⟩ (.slice B6 c.f6.length d6) = W23 at HCS23 HR23 HJ23 hHeld ⊢
 clear hHeld
 refine done_ (by kernel_rfl) ?_
 refine ⟨rfl,?_⟩
 rename_i hKK
 refine hKK _ _ ?_
 clear hKK
 have y6 : W23.cell? ⟨b1,6,none⟩ = some (.slice A6 c.f6.length c6):=(BX.cell HCS23.out.x1 6).trans rfl
 go_wp2
 repeat (go_quiet (fail);try go_wp2)
 clear y6
 (try simp only [Act.put,sA_,sB_,sC_])
 go_loopg [50] (c.f6.length + 1) (fun kq v50 w' => ∃ (n : Nat),v50 = .int .i64 n ∧ A0_ (n + kq = c.f6.length + 1) ∧ A0_ (n ≤ c.f6.length) ∧ A0_ (CS w w' c ⟨A1,A2,A3,A4,A5,A6,A7,A8,A9,A10,c1,c2,c3,c4,c5,c6,c7,c8,c9,c10⟩ b1 b2 b3 #[.int .i64 c.f0,.slice B1 c.f1.length d1,.slice B2 c.f2.length d2,.slice B3 c.f3.length d3,.slice B4 c.f4.length d4,.slice B5 c.f5.length d5,.slice B6 c.f6.length d6,.slice B7 c.f7.length d7,.slice B8 c.f8.length d8,.slice B9 c.f9.length d9,.slice B10 c.f10.length d10]) ∧ A0_ (AllR w' w.heap.size [rT (.slice B10 c.f10.length d10) c.f10,rS (.slice B9 c.f9.length d9) c.f9,rA (.slice B8 c.f8.length d8) c.f8,rI (.slice B7 c.f7.length d7) c.f7,rI (.slice B5 c.f5.length d5) c.f5,rI (.slice B4 c.f4.length d4) c.f4,rI (.slice B3 c.f3.length d3) c.f3,rL (.slice B2 c.f2.length d2) c.f2,rI (.slice B1 c.f1.length d1) c.f1]) ∧ A0_ (∃ raws,JB w' w0.heap.size w.heap.size (.slice B6 c.f6.length d6) c.f6 raws))
 case atStart => exact ⟨0,rfl,⟨by omega⟩,⟨Nat.zero_le _⟩,HCS23,HR23,⟨raws,HJ23.out⟩⟩
 case round =>
  clear HCS23 HR23 HJ23
  obtain ⟨n,rfl,HKN,HNL,HCS,HR,HJ⟩:=hrel
  by_cases cn : n < c.f6.length
  ·obtain ⟨k1,rfl⟩ : ∃ k1,gk = k1 + 1:=by
    cases gk with
    |zero => have:=HKN.out;omega
    |succ k1 => exact ⟨k1,rfl⟩
   have cnb : decide ((n : Int) < (c.f6.length : Int)) = true:=decide_eq_true (by omega)
   have p0 : (0 ≤ (n : Int)) = True:=eq_true (by omega)
   have p1 : ((n : Int) < (c.f6.length : Int)) = True:=eq_true (by omega)
   have hw1 : IntKind.i64.wrap ((n : Int) + 1) = ((n + 1 : Nat) : Int):=by have:=HS.out.l6;rw [IntKind.wrap_i64];omega
   obtain ⟨ad,A1,q1,ea,hc,hrow⟩:=row_get (Kd.C_below HC.out.r6 HCS.out.below) n cn
   have ea : A6 = some ad:=ea
   subst ea
   have hxl:=HJL.out c.f6[n] (List.getElem_mem _)
   have HX6 : A0_ (c.f6[n]? = some c.f6[n]):=⟨List.getElem?_eq_getElem cn⟩
   obtain ⟨raws1,hj1⟩:=HJ.out
   obtain ⟨g6,cap6,hv6,hg6,hlt6⟩:=hj1.form (by omega)
   injection hv6 with e1 e2 e3
   subst e1 e3
   have HJ1:=A0_.mk hj1
   have HG6 : A0_ (w.heap.size ≤ g6 ∧ g6 < wr.heap.size):=⟨⟨hg6,hlt6⟩⟩
   clear hj1 hg6 hlt6 HJ e2
   generalize c.f6[n] = x at hc hrow hxl HX6
   have HROW:=A0_.mk hrow
   have HXL:=A0_.mk hxl
   clear hrow hxl
   go_upto_region 8 with (fail)
   clear hc
   refine wp_normal' ?_
   refine start_ (n:=7) (S:=fun w' => w'.cell? ⟨b3,6,none⟩ = some (.slice (some ⟨g6,0,none⟩) c.f6.length d6)) (ds:=[6]) (Array.replicate 7 false) (by kernel_rfl) rfl rfl (bC_ (bD_ HCS.out.x3) 6) (fun hHeld => ?_)
   have hd:=below_drew (Below.refl wr.heap.size wr)
   have HCSa:=A0_.mk (HCS.out.call hd)
   have HRa:=A0_.mk (HR.out.below hd)
   have HJa:=A0_.mk (HJ1.out.below hd)
   have HROWa:=A0_.mk (HROW.out.below hd)
   have HGa : A0_ (w.heap.size ≤ g6 ∧ g6 < wr.drew.heap.size):=HG6
   clear hd HCS HR HJ1 HROW HG6
   generalize wr.drew = Wa at HCSa HRa HJa HROWa HGa hHeld ⊢
   refine pure_ (i:=0) (N:=some 55) (v:=?_) (a':=?_) (zA_ 7 1) rfl rfl (by kernel_rfl) (fun _ _ _ h => by cases h.1) (Or.inl ⟨by rfl,?_⟩) ?_ ?_
   rotate_left
   ·intro w'
    go_simp
    with_reducible rfl
   rotate_left
   ·simp only [Act.put,sA_,sB_,sC_]
    rfl
   refine take_ (i:=1) (N:=some 56) (v:=?_) (a':=?_) (zA_ 7 3) rfl rfl (by kernel_rfl) (fun _ _ _ h => by cases h.1) (Or.inl ⟨by rfl,?_⟩) hHeld ?_ ?_
   rotate_left
   ·intro w' s_
    have y6:=s_
    go_simp
    with_reducible rfl
   rotate_left
   ·simp only [Act.put,sA_,sB_,sC_]
    rfl
   refine pure_ (i:=2) (N:=some 57) (v:=?_) (a':=?_) (zA_ 7 7) rfl rfl (by kernel_rfl) (fun _ _ _ h => by cases h.1) (Or.inl ⟨by rfl,?_⟩) ?_ ?_
   rotate_left
   ·intro w'
    go_simp
    with_reducible rfl
   rotate_left
   ·simp only [Act.put,sA_,sB_,sC_]
    rfl
   refine pure_ (i:=3) (N:=some 58) (v:=?_) (a':=?_) (zA_ 7 15) rfl rfl (by kernel_rfl) (fun _ _ _ h => by cases h.1) (Or.inl ⟨by rfl,?_⟩) ?_ ?_
   rotate_left
   ·intro w'
    go_simp
    with_reducible rfl
   rotate_left
   ·simp only [Act.put,sA_,sB_,sC_]
    rfl
   refine one_ (i:=4) (N:=some 59) (zA_ 7 31) rfl rfl (by kernel_rfl) (by decide) (fun K hK => ?_)
   refine goes_ Tryz.func69 (by kernel_rfl) rfl #[.slice A1 x.length q1] (by rfl) rfl rfl (by (try simp only [List.map_toArray,List.map_cons,List.map_nil]);first|done|rfl) ?_
   refine (clone69_calls (cp:=q1) HROWa.out.rd (by have:=HXL.out;omega)).mono ?_
   rintro e Wb ⟨v,rfl,hr,hb⟩
   obtain ⟨B,dd,rfl⟩:=Kd.R_slice hr
   have HCSb:=A0_.mk (HCSa.out.call hb)
   have HRb:=A0_.mk (HRa.out.below hb)
   have HJb:=A0_.mk (HJa.out.below hb)
   have HROWb : A0_ (RawAt Wb x (B,x.length,dd)):=⟨by obtain ⟨_,h2,h3⟩:=Kd.R_reads' hr;exact ⟨rfl,h2,h3⟩⟩
   have HNE : A0_ (∀ ad,B = some ad → 0 < x.length → ad.block ≠ g6 ∧ FT Wb w0.heap.size ad.block):=⟨fun ad e hn => by subst e;exact ⟨fun he => by have h1:=Kd.R_base hr ad.block rfl;have:=HGa.out;omega,.inr (Kd.R_typed hr ad.block rfl)⟩⟩
   have HGb : A0_ (w.heap.size ≤ g6):=⟨HGa.out.1⟩
   clear hr hb HCSa HRa HJa HROWa HGa
   refine ⟨_,rfl,hK.out _ _ (bC_ HCSb.out.x3 6) (fun hHeld2 => ?_)⟩
   clear hK K hHeld
   have hHeld:=hHeld2
   clear hHeld2
   refine norm_ (a':=?_) ?_ ?_
   rotate_left
   ·show Act.put _ (some 59) _ = _
    simp only [Act.put,sA_,sB_,sC_]
    rfl
   refine pure_ (i:=5) (N:=some 60) (v:=?_) (a':=?_) (zA_ 7 63) rfl rfl (by kernel_rfl) (fun _ _ _ h => by cases h.1) (Or.inl ⟨by rfl,?_⟩) ?_ ?_
   rotate_left
   ·intro w'
    go_simp
    with_reducible rfl
   rotate_left
   ·simp only [Act.put,sA_,sB_,sC_]
    rfl
   obtain ⟨⟨u6,hu6⟩,hz6⟩:=HJb.out.cell cn rfl
   refine last_ (i:=6) (N:=none) (zA_ 7 127) rfl rfl (by kernel_rfl) (by decide) (fun K hK => ?_)
   refine skip_ (w1:=Wb.setCell ⟨g6,n,none⟩ (.slice B x.length dd)) rfl rfl ?_ ?_
   ·go_simp
   obtain ⟨cs6,hcs6⟩:=HJb.out.blk
   have HCSc:=A0_.mk (HCSb.out.put22 (i:=n) hcs6 HGb.out (.slice B x.length dd))
   have HRc:=A0_.mk (HRb.out.set22 (j:=n) hcs6 (.slice B x.length dd))
   have HJc:=A0_.mk (HJb.out.put HX6.out HROWb.out HNE.out)
   dsimp only at HJc
   clear hu6 hz6 hcs6 HCSb HRb HJb HROWb
   refine hK.out _ _ ?_
   clear hK K
   generalize Wb.setCell ⟨g6,n,none⟩ (.slice B x.length dd) = Wc at HCSc HRc HJc ⊢
   clear hHeld
   refine done_ (by kernel_rfl) ?_
   refine ⟨rfl,?_⟩
   rename_i hKK
   refine hKK _ _ ?_
   clear hKK
   go_wp2
   repeat (go_quiet (fail);try go_wp2)
   go_roundg k1
   case measure => omega
   case rel => exact ⟨n + 1,rfl,⟨by have:=HKN.out;omega⟩,⟨by omega⟩,HCSc,HRc,⟨_,HJc.out⟩⟩
  ·have cnb : decide ((n : Int) < (c.f6.length : Int)) = false:=decide_eq_false (by omega)
   have x3:=HCS.out.x3
   have x2:=HCS.out.x2
   have y0 : wr.cell? ⟨b3,0,none⟩ = some (.int .i64 c.f0):=bC_ x3 0
   have y1 : wr.cell? ⟨b3,1,none⟩ = some (.slice B1 c.f1.length d1):=bC_ x3 1
   have y2 : wr.cell? ⟨b3,2,none⟩ = some (.slice B2 c.f2.length d2):=bC_ x3 2
   have y3 : wr.cell? ⟨b3,3,none⟩ = some (.slice B3 c.f3.length d3):=bC_ x3 3
   have y4 : wr.cell? ⟨b3,4,none⟩ = some (.slice B4 c.f4.length d4):=bC_ x3 4
   have y5 : wr.cell? ⟨b3,5,none⟩ = some (.slice B5 c.f5.length d5):=bC_ x3 5
   have y6 : wr.cell? ⟨b3,6,none⟩ = some (.slice B6 c.f6.length d6):=bC_ x3 6
   have y7 : wr.cell? ⟨b3,7,none⟩ = some (.slice B7 c.f7.length d7):=bC_ x3 7
   have y8 : wr.cell? ⟨b3,8,none⟩ = some (.slice B8 c.f8.length d8):=bC_ x3 8
   have y9 : wr.cell? ⟨b3,9,none⟩ = some (.slice B9 c.f9.length d9):=bC_ x3 9
   have y10 : wr.cell? ⟨b3,10,none⟩ = some (.slice B10 c.f10.length d10):=bC_ x3 10
   have e0 : wr.cell? ⟨b2,0,none⟩ = some (.int .i64 0):=bC_ x2 0
   have e1 : wr.cell? ⟨b2,1,none⟩ = some (.slice none 0 0):=bC_ x2 1
   have e2 : wr.cell? ⟨b2,2,none⟩ = some (.slice none 0 0):=bC_ x2 2
   have e3 : wr.cell? ⟨b2,3,none⟩ = some (.slice none 0 0):=bC_ x2 3
   have e4 : wr.cell? ⟨b2,4,none⟩ = some (.slice none 0 0):=bC_ x2 4
   have e5 : wr.cell? ⟨b2,5,none⟩ = some (.slice none 0 0):=bC_ x2 5
   have e6 : wr.cell? ⟨b2,6,none⟩ = some (.slice none 0 0):=bC_ x2 6
   have e7 : wr.cell? ⟨b2,7,none⟩ = some (.slice none 0 0):=bC_ x2 7
   have e8 : wr.cell? ⟨b2,8,none⟩ = some (.slice none 0 0):=bC_ x2 8
   have e9 : wr.cell? ⟨b2,9,none⟩ = some (.slice none 0 0):=bC_ x2 9
   have e10 : wr.cell? ⟨b2,10,none⟩ = some (.slice none 0 0):=bC_ x2 10
   have g0:=bF_ x2 0
   have g1:=bF_ x2 1
   have g2:=bF_ x2 2
   have g3:=bF_ x2 3
   have g4:=bF_ x2 4
   have g5:=bF_ x2 5
   have g6:=bF_ x2 6
   have g7:=bF_ x2 7
   have g8:=bF_ x2 8
   have g9:=bF_ x2 9
   have g10:=bF_ x2 10
   clear x3 x2
   go_wp2
   repeat (go_quiet (fail);try go_wp2)
   have hb:=blk11 HCS.out.x2 (.int .i64 c.f0) (.slice B1 c.f1.length d1) (.slice B2 c.f2.length d2) (.slice B3 c.f3.length d3) (.slice B4 c.f4.length d4) (.slice B5 c.f5.length d5) (.slice B6 c.f6.length d6) (.slice B7 c.f7.length d7) (.slice B8 c.f8.length d8) (.slice B9 c.f9.length d9) (.slice B10 c.f10.length d10)
   refine bodyPost_ret (results_single rfl (.cell b2 29 _ (0,0) _ rfl hb Tryz.underlying29 rfl info65s .nil)) rfl ?_
   obtain ⟨raws1,hj1⟩:=HJ.out
   have HCS:=HCS.out
   have HR:=HR.out
   refine ⟨⟨B1,B2,B3,B4,B5,B6,B7,B8,B9,B10,d1,d2,d3,d4,d5,d6,d7,d8,d9,d10⟩,rfl,⟨?_,raws1,?_⟩,?_⟩
   ·have hr11:=HR.set11 HCS.x2 (.int .i64 c.f0) (.slice B1 c.f1.length d1) (.slice B2 c.f2.length d2) (.slice B3 c.f3.length d3) (.slice B4 c.f4.length d4) (.slice B5 c.f5.length d5) (.slice B6 c.f6.length d6) (.slice B7 c.f7.length d7) (.slice B8 c.f8.length d8) (.slice B9 c.f9.length d9) (.slice B10 c.f10.length d10)
    exact (((((((((AllR.nil _ _).cons (r:=rT (.slice B10 c.f10.length d10) c.f10) (hr11 _ (.head _))).cons (r:=rS (.slice B9 c.f9.length d9) c.f9) (hr11 _ (.tail _ (.head _)))).cons (r:=rA (.slice B8 c.f8.length d8) c.f8) (hr11 _ (.tail _ (.tail _ (.head _))))).cons (r:=rI (.slice B7 c.f7.length d7) c.f7) (hr11 _ (.tail _ (.tail _ (.tail _ (.head _)))))).cons (r:=rI (.slice B5 c.f5.length d5) c.f5) (hr11 _ (.tail _ (.tail _ (.tail _ (.tail _ (.head _))))))).cons (r:=rI (.slice B4 c.f4.length d4) c.f4) (hr11 _ (.tail _ (.tail _ (.tail _ (.tail _ (.tail _ (.head _)))))))).cons (r:=rI (.slice B3 c.f3.length d3) c.f3) (hr11 _ (.tail _ (.tail _ (.tail _ (.tail _ (.tail _ (.tail _ (.head _))))))))).cons (r:=rL (.slice B2 c.f2.length d2) c.f2) (hr11 _ (.tail _ (.tail _ (.tail _ (.tail _ (.tail _ (.tail _ (.tail _ (.head _)))))))))).cons (r:=rI (.slice B1 c.f1.length d1) c.f1) (hr11 _ (.tail _ (.tail _ (.tail _ (.tail _ (.tail _ (.tail _ (.tail _ (.tail _ (.head _))))))))))
   ·exact hj1.set11 HCS.x2 (Nat.le_trans HB0.out.size HCS.l2) (.int .i64 c.f0) (.slice B1 c.f1.length d1) (.slice B2 c.f2.length d2) (.slice B3 c.f3.length d3) (.slice B4 c.f4.length d4) (.slice B5 c.f5.length d5) (.slice B6 c.f6.length d6) (.slice B7 c.f7.length d7) (.slice B8 c.f8.length d8) (.slice B9 c.f9.length d9) (.slice B10 c.f10.length d10)
   ·exact below11 HCS.below HCS.l2 (.int .i64 c.f0) (.slice B1 c.f1.length d1) (.slice B2 c.f2.length d2) (.slice B3 c.f3.length d3) (.slice B4 c.f4.length d4) (.slice B5 c.f5.length d5) (.slice B6 c.f6.length d6) (.slice B7 c.f7.length d7) (.slice B8 c.f8.length d8) (.slice B9 c.f9.length d9) (.slice B10 c.f10.length d10)
end Go.Proofs.YtdmngdohlobogaaGreatDoor.Asc

