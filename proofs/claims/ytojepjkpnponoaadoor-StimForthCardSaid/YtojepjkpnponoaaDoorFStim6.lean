import Derived.Test.YtojepjkpnponoaaDoorFStim0
import Derived.Test.YtojepjkpnponoaaDoorFStim5
import Derived.Test.YtojepjkpnponoaaDoorFGV
import Derived.Test.YtojepjkpnponoaaDoorFGProps
namespace Go.Proofs.YtojepjkpnponoaaDoor.Stim
open Go.RowKit Go.Proofs.YtojepjkpnponoaaDoorW.PrintWords Go.Proofs.YtojepjkpnponoaaDoorW.PrintLast Go.Proofs.YtojepjkpnponoaaDoorW.PrintMore
attribute [local go_sem] max2_int min2_int max_two min_two max_three min_three max_four min_four
set_option linter.unusedVariables false
set_option linter.unusedSimpArgs false
mutual
def stim_Check.j0 : Nat → Int → Int → Bool → Int → List (S83) → List Bool → List (List Bool) → Int → Option (Int)
 |0,_,_,_,_,_,_,_,_ => none
 |k + 1,x1,x2,x23,x239000,x239001,x239002,x239003,x239004 => if x23 = true then (some 120) else ((stim_props.f x239001).bind fun t240 => (if t240 = 0 then (if x239000 = 1 then (if (x239002.length : Int) = x1 then (if (x239003.length : Int) = 0 then (stim_Check.j1 k x2 true x239002 x239003 x239004) else (if (x239003.length : Int) > 512 then (stim_Check.j1 k x2 true x239002 x239003 x239004) else (if x239004 < (-1) then (stim_Check.j1 k x2 true x239002 x239003 x239004) else (stim_Check.j1 k x2 (decide (x239004 ≥ (x239003.length : Int))) x239002 x239003 x239004)))) else (stim_Check.j1 k x2 true x239002 x239003 x239004)) else (if (wrap64 ((x239002.length : Int) + (x239003.length : Int))) > 0 then (some 4) else (if x239004 = 0 then (some 0) else (some 4)))) else (some t240)))
def stim_Check.j1 : Nat → Int → Bool → List Bool → List (List Bool) → Int → Option (Int)
 |0,_,_,_,_,_ => none
 |k + 1,x2,x74,x242000,x242001,x242002 => if x74 = true then (some 4) else (stim_Check.l0 k x2 x242001 (x242001.length : Int) 0)
def stim_Check.l0 : Nat → Int → List (List Bool) → Int → Int → Option (Int)
 |0,_,_,_,_ => none
 |k + 1,x2,x76,x77,x78 => if x78 < x77 then (if 0 ≤ x78 then (if x78 < (x76.length : Int) then (if ((rd_L6 x76 x78).length : Int) = x2 then (stim_Check.l0 k x2 x76 x77 (wrap64 (x78 + 1))) else (some 4)) else (none)) else (none)) else (some 0)
end
def stim_Check.f (k : Nat) (a0_0 : Int) (l0_1 : List (S83)) (l0_2 : List Bool) (l0_3 : List (List Bool)) (a0_4 : Int) (a1 : Int) (a2 : Int) : Option (Int):=(stim_sized.f a1 a2).bind fun t239 => (if t239 = true then (if a0_0 < 0 then (stim_Check.j0 k a1 a2 true a0_0 l0_1 l0_2 l0_3 a0_4) else (stim_Check.j0 k a1 a2 (decide (a0_0 > 2)) a0_0 l0_1 l0_2 l0_3 a0_4)) else (some 1))
set_option maxHeartbeats 8000000 in
set_option maxRecDepth 100000 in
theorem stim_Check.calls (k : Nat) (a0_0 : Int) (A0_1 : Option Addr) (c0_1 : Nat) (l0_1 : List (S83)) (A0_2 : Option Addr) (c0_2 : Nat) (l0_2 : List Bool) (A0_3 : Option Addr) (c0_3 : Nat) (l0_3 : List (List Bool)) (a0_4 : Int) (a1 : Int) (a2 : Int) (r : Int) (w : World) (hr0_1 : Kd.C k83 w A0_1 l0_1.length l0_1) (hc0_1 : l0_1.length ≤ c0_1) (hr0_2 : Kd.C Kd.bool w A0_2 l0_2.length l0_2) (hc0_2 : l0_2.length ≤ c0_2) (hr0_3 : Kd.C (Kd.slice 4 Kd.bool) w A0_3 l0_3.length l0_3) (hc0_3 : l0_3.length ≤ c0_3) (h : stim_Check.f k a0_0 l0_1 l0_2 l0_3 a0_4 a1 a2 = some r) :
  Calls Tryd.prog 15 #[.agg #[.int .i64 a0_0,.slice A0_1 l0_1.length c0_1,.slice A0_2 l0_2.length c0_2,.slice A0_3 l0_3.length c0_3,.int .i64 a0_4],.int .i64 a1,.int .i64 a2] w fun e w' => e = .returned (.int .i64 r) ∧ Below w.heap.size w w':=by
 have hu28:=Tryd.underlying28
 have hu26:=Tryd.underlying26
 have HR0_1:=A0_.mk hr0_1
 have HC0_1:=A0_.mk hc0_1
 clear hr0_1 hc0_1
 have HR0_2:=A0_.mk hr0_2
 have HC0_2:=A0_.mk hc0_2
 clear hr0_2 hc0_2
 have HR0_3:=A0_.mk hr0_3
 have HC0_3:=A0_.mk hc0_3
 clear hr0_3 hc0_3
 have HB:=A0_.mk (Below.refl w.heap.size w)
 have H : ((stim_sized.f a1 a2).bind fun t239 => (if t239 = true then (if a0_0 < 0 then (stim_Check.j0 k a1 a2 true a0_0 l0_1 l0_2 l0_3 a0_4) else (stim_Check.j0 k a1 a2 (decide (a0_0 > 2)) a0_0 l0_1 l0_2 l0_3 a0_4)) else (some 1))) = some r:=h
 clear h
 replace H:=Option.bind_eq_some_iff.mp H
 obtain ⟨t239,A40,H⟩:=H
 replace H : (if t239 = true then (if a0_0 < 0 then (stim_Check.j0 k a1 a2 true a0_0 l0_1 l0_2 l0_3 a0_4) else (stim_Check.j0 k a1 a2 (decide (a0_0 > 2)) a0_0 l0_1 l0_2 l0_3 a0_4)) else (some 1)) = some r:=H
 have A4:=A0_.mk A40
 clear A40
 by_cases c5 : t239 = true
 ·subst c5
  have H1 : (if a0_0 < 0 then (stim_Check.j0 k a1 a2 true a0_0 l0_1 l0_2 l0_3 a0_4) else (stim_Check.j0 k a1 a2 (decide (a0_0 > 2)) a0_0 l0_1 l0_2 l0_3 a0_4)) = some r:=by rw [if_pos rfl] at H;exact H
  clear H
  have H:=H1
  clear H1
  have HC6:=A0_.mk H
  clear H
  go_enter Tryd.func15,Tryd.ntmps15
  go_upto_region 3 with (first|((with_reducible refine gate_dst (N:=3) rfl ?_);refine box_event ?hg (N:=3) ?hd (cs:=#[.int .i64 a0_0,.slice A0_1 l0_1.length c0_1,.slice A0_2 l0_2.length c0_2,.slice A0_3 l0_3.length c0_3,.int .i64 a0_4]) (t:=28) ?hr ?_;(case hd => rfl);(case hg => rfl);(case hr => first|(go_simp;done)|(go_simp;rfl));intro gb238 hg w7 hbox hb;have n0_:=A0_.mk (below_step (by repeat (first|(with_reducible first|exact HB.out|apply eA_|apply eN_|apply eD_)|exact HB.out)) hb);have n1_:=A0_.mk (hbox);have n2_:=A0_.mk ((by rw [hg];exact (below_size (by repeat (first|(with_reducible first|exact HB.out|apply eA_|apply eN_|apply eD_)|exact HB.out))) : w.heap.size ≤ gb238));have n3_:=A0_.mk ((by rw [hg];exact (below_size (by repeat (first|(with_reducible first|exact HB.out|apply eA_|apply eN_|apply eD_)|exact HB.out))) : w.heap.size ≤ gb238));clear HB;have HB:=n0_;have BK238:=n1_;have GW238:=n2_;have GE238:=n3_;clear n0_ n1_ n2_ n3_;clear hb hbox hg)|((with_reducible refine gate_callee (f:=40) rfl ?_);refine goesL_ (some 14) rfl rfl Tryd.func40 (by kernel_rfl) rfl #[.int .i64 a1,.int .i64 a2] rfl (by (try simp only [List.map_toArray,List.map_cons,List.map_nil]);first|done|rfl|(simp only [List.length_drop,List.length_take];rfl)) ?_;(with_reducible refine (stim_sized.calls a1 a2 true _ A4.out).mono ?_);rintro e w' ⟨rfl,⟨nd,rfl⟩⟩;refine ⟨_,rfl,?_⟩))
  (try simp only [Act.put,List.setIfInBounds_toArray,List.set_cons_zero,List.set_cons_succ])
  go_cut [23] (fun v23 wc => ∃ (kq : Nat) (x23_5 : Bool),v23 = .bool x23_5 ∧ A0_ (stim_Check.j0 kq a1 a2 x23_5 a0_0 l0_1 l0_2 l0_3 a0_4 = some r) ∧ A0_ (kq ≤ k) ∧ A0_ (wc.heap[gb238]? = some (.cells #[.int .i64 a0_0,(.slice A0_1 l0_1.length c0_1),(.slice A0_2 l0_2.length c0_2),(.slice A0_3 l0_3.length c0_3),.int .i64 a0_4] 28 (0,0))) ∧ A0_ (Below w.heap.size w wc))
  case first =>
   have H:=HC6.out
   clear HC6
   by_cases c8 : a0_0 < 0
   ·rw [if_pos c8] at H
    have c8b0 : decide (a0_0 < 0) = true:=decide_eq_true c8
    clear c8
    (first|rw [c8b0]|(simp only [i64_w,i32_w];rw [c8b0])|skip)
    have H':=A0_.mk H
    clear H
    have hcz9_0 : w7.cell? ⟨gb238,0,none⟩ = some (.int .i64 a0_0):=(bC_ BK238.out 0).trans rfl
    have hcz9_1 : w7.cell? ⟨gb238,1,none⟩ = some (.slice A0_1 l0_1.length c0_1):=(bC_ BK238.out 1).trans rfl
    have hcz9_2 : w7.cell? ⟨gb238,2,none⟩ = some (.slice A0_2 l0_2.length c0_2):=(bC_ BK238.out 2).trans rfl
    have hcz9_3 : w7.cell? ⟨gb238,3,none⟩ = some (.slice A0_3 l0_3.length c0_3):=(bC_ BK238.out 3).trans rfl
    have hcz9_4 : w7.cell? ⟨gb238,4,none⟩ = some (.int .i64 a0_4):=(bC_ BK238.out 4).trans rfl
    have hfz9_0:=bF_ BK238.out 0
    have hfz9_1:=bF_ BK238.out 1
    have hfz9_2:=bF_ BK238.out 2
    have hfz9_3:=bF_ BK238.out 3
    have hfz9_4:=bF_ BK238.out 4
    go_wp2
    go_meet
    case rel => exact ⟨_,(true),(by first|rfl|(simp;done)|(simp [*];done)),H',⟨by first|omega|exact Nat.le_refl _⟩,⟨by (with_reducible repeat (first|refine bN_ ?_ _|refine bD_ ?_|refine bA_ ?_ _));exact BK238.out⟩,⟨by repeat (first|(with_reducible first|exact HB.out|apply eA_|apply eN_|apply eD_|refine eS_ ?_ GE238.out)|exact HB.out)⟩⟩
   ·rw [if_neg c8] at H
    have c8b0 : decide (a0_0 < 0) = false:=decide_eq_false c8
    clear c8
    (first|rw [c8b0]|(simp only [i64_w,i32_w];rw [c8b0])|skip)
    have H':=A0_.mk H
    clear H
    have hcz10_0 : w7.cell? ⟨gb238,0,none⟩ = some (.int .i64 a0_0):=(bC_ BK238.out 0).trans rfl
    have hcz10_1 : w7.cell? ⟨gb238,1,none⟩ = some (.slice A0_1 l0_1.length c0_1):=(bC_ BK238.out 1).trans rfl
    have hcz10_2 : w7.cell? ⟨gb238,2,none⟩ = some (.slice A0_2 l0_2.length c0_2):=(bC_ BK238.out 2).trans rfl
    have hcz10_3 : w7.cell? ⟨gb238,3,none⟩ = some (.slice A0_3 l0_3.length c0_3):=(bC_ BK238.out 3).trans rfl
    have hcz10_4 : w7.cell? ⟨gb238,4,none⟩ = some (.int .i64 a0_4):=(bC_ BK238.out 4).trans rfl
    have hfz10_0:=bF_ BK238.out 0
    have hfz10_1:=bF_ BK238.out 1
    have hfz10_2:=bF_ BK238.out 2
    have hfz10_3:=bF_ BK238.out 3
    have hfz10_4:=bF_ BK238.out 4
    go_wp2
    go_meet
    case rel => exact ⟨_,(decide (a0_0 > 2)),(by first|rfl|(simp;done)|(simp [*];done)),H',⟨by first|omega|exact Nat.le_refl _⟩,⟨by (with_reducible repeat (first|refine bN_ ?_ _|refine bD_ ?_|refine bA_ ?_ _));exact BK238.out⟩,⟨by repeat (first|(with_reducible first|exact HB.out|apply eA_|apply eN_|apply eD_|refine eS_ ?_ GE238.out)|exact HB.out)⟩⟩
  case rest =>
   clear HC6
   try clear c1
   try clear p2
   try clear c4
   try clear c5
   try clear c8
   try clear c8b0
   try clear hcz10_0
   try clear hcz10_1
   try clear hcz10_2
   try clear hcz10_3
   try clear hcz10_4
   try clear hcz9_0
   try clear hcz9_1
   try clear hcz9_2
   try clear hcz9_3
   try clear hcz9_4
   try clear hfz10_0
   try clear hfz10_1
   try clear hfz10_2
   try clear hfz10_3
   try clear hfz10_4
   try clear hfz9_0
   try clear hfz9_1
   try clear hfz9_2
   try clear hfz9_3
   try clear hfz9_4
   obtain ⟨kq,x23_5,rfl,HA,HJ5,BK238,HB⟩:=hcut
   cases kq with
   |zero => exact absurd HA.out (by simp [stim_Check.j0])
   |succ kj5 =>
    have H:=HA.out
    clear HA
    simp only [stim_Check.j0] at H
    by_cases c11 : x23_5 = true
    ·subst c11
     have H1 : (some 120) = some r:=by rw [if_pos rfl] at H;exact H
     clear H
     have H:=H1
     clear H1
     obtain rfl:=Option.some.inj H
     go_wp2
     go_ret
     exact ⟨by first|rfl|(simp [errW_none,errW_some] <;> rfl)|(simp [*,errW_none,errW_some] <;> rfl),by repeat (first|(with_reducible first|exact HB.out|apply eA_|apply eN_|apply eD_|refine eS_ ?_ GE238.out)|exact HB.out)⟩
    ·replace c11:=Bool.eq_false_iff.mpr c11
     subst c11
     have H1 : ((stim_props.f l0_1).bind fun t240 => (if t240 = 0 then (if a0_0 = 1 then (if (l0_2.length : Int) = a1 then (if (l0_3.length : Int) = 0 then (stim_Check.j1 kj5 a2 true l0_2 l0_3 a0_4) else (if (l0_3.length : Int) > 512 then (stim_Check.j1 kj5 a2 true l0_2 l0_3 a0_4) else (if a0_4 < (-1) then (stim_Check.j1 kj5 a2 true l0_2 l0_3 a0_4) else (stim_Check.j1 kj5 a2 (decide (a0_4 ≥ (l0_3.length : Int))) l0_2 l0_3 a0_4)))) else (stim_Check.j1 kj5 a2 true l0_2 l0_3 a0_4)) else (if (wrap64 ((l0_2.length : Int) + (l0_3.length : Int))) > 0 then (some 4) else (if a0_4 = 0 then (some 0) else (some 4)))) else (some t240))) = some r:=by rw [if_neg (show ¬ (false = true) by decide)] at H;exact H
     clear H
     have H:=H1
     clear H1
     replace H:=Option.bind_eq_some_iff.mp H
     obtain ⟨t240,A120,H⟩:=H
     replace H : (if t240 = 0 then (if a0_0 = 1 then (if (l0_2.length : Int) = a1 then (if (l0_3.length : Int) = 0 then (stim_Check.j1 kj5 a2 true l0_2 l0_3 a0_4) else (if (l0_3.length : Int) > 512 then (stim_Check.j1 kj5 a2 true l0_2 l0_3 a0_4) else (if a0_4 < (-1) then (stim_Check.j1 kj5 a2 true l0_2 l0_3 a0_4) else (stim_Check.j1 kj5 a2 (decide (a0_4 ≥ (l0_3.length : Int))) l0_2 l0_3 a0_4)))) else (stim_Check.j1 kj5 a2 true l0_2 l0_3 a0_4)) else (if (wrap64 ((l0_2.length : Int) + (l0_3.length : Int))) > 0 then (some 4) else (if a0_4 = 0 then (some 0) else (some 4)))) else (some t240)) = some r:=H
     have A12:=A0_.mk A120
     clear A120
     by_cases c13 : t240 = 0
     ·rw [if_pos c13] at H
      have c13b0 : (t240 == 0) = true:=beq_iff_eq.mpr c13
      have c13b1 : (t240 != 0) = false:=bne_eq_false_iff_eq.mpr c13
      clear c13
      by_cases c14 : a0_0 = 1
      ·rw [if_pos c14] at H
       have c14b0 : (a0_0 == 1) = true:=beq_iff_eq.mpr c14
       have c14b1 : (a0_0 != 1) = false:=bne_eq_false_iff_eq.mpr c14
       clear c14
       have HC15:=A0_.mk H
       clear H
       have hcz16_0 : wc.cell? ⟨gb238,0,none⟩ = some (.int .i64 a0_0):=(bC_ BK238.out 0).trans rfl
       have hcz16_1 : wc.cell? ⟨gb238,1,none⟩ = some (.slice A0_1 l0_1.length c0_1):=(bC_ BK238.out 1).trans rfl
       have hcz16_2 : wc.cell? ⟨gb238,2,none⟩ = some (.slice A0_2 l0_2.length c0_2):=(bC_ BK238.out 2).trans rfl
       have hcz16_3 : wc.cell? ⟨gb238,3,none⟩ = some (.slice A0_3 l0_3.length c0_3):=(bC_ BK238.out 3).trans rfl
       have hcz16_4 : wc.cell? ⟨gb238,4,none⟩ = some (.int .i64 a0_4):=(bC_ BK238.out 4).trans rfl
       have hfz16_0:=bF_ BK238.out 0
       have hfz16_1:=bF_ BK238.out 1
       have hfz16_2:=bF_ BK238.out 2
       have hfz16_3:=bF_ BK238.out 3
       have hfz16_4:=bF_ BK238.out 4
       go_upto_region 14 with (first|((with_reducible refine gate_callee (f:=41) rfl ?_);refine goesL_ (some 26) rfl rfl Tryd.func41 (by kernel_rfl) rfl #[.slice A0_1 l0_1.length c0_1] rfl (by (try simp only [List.map_toArray,List.map_cons,List.map_nil]);first|done|rfl|(simp only [List.length_drop,List.length_take];rfl)) ?_;(with_reducible refine (stim_props.calls _ _ l0_1 t240 _ ?side1 ?side2 A12.out).mono ?_);(case side1 => repeat (first|exact (Kd.C_below HR0_1.out HB.out)|(with_reducible refine Kd.C_alloc ?_ _)|(with_reducible refine Kd.C_drewN ?_ _)|(with_reducible refine Kd.C_drew ?_)));(case side2 => exact HC0_1.out);rintro e w17 ⟨rfl,hb⟩;refine ⟨_,rfl,?_⟩;have n0_:=A0_.mk (blk_below (g:=gb238) (o:=.cells #[.int .i64 a0_0,.slice A0_1 l0_1.length c0_1,.slice A0_2 l0_2.length c0_2,.slice A0_3 l0_3.length c0_3,.int .i64 a0_4] 28 (0,0)) (by (with_reducible repeat (first|refine bN_ ?_ _|refine bD_ ?_|refine bA_ ?_ _));exact BK238.out) hb);have n1_:=A0_.mk (below_step (by repeat (first|(with_reducible first|exact HB.out|apply eA_|apply eN_|apply eD_|refine eS_ ?_ GE238.out)|exact HB.out)) hb);clear BK238;clear HB;have BK238:=n0_;have HB:=n1_;clear n0_ n1_;(try clear hb);(try clear hb2);(try clear hk);(try clear hi);have hcz18_0 : w17.cell? ⟨gb238,0,none⟩ = some (.int .i64 a0_0):=(bC_ BK238.out 0).trans rfl;have hcz18_1 : w17.cell? ⟨gb238,1,none⟩ = some (.slice A0_1 l0_1.length c0_1):=(bC_ BK238.out 1).trans rfl;have hcz18_2 : w17.cell? ⟨gb238,2,none⟩ = some (.slice A0_2 l0_2.length c0_2):=(bC_ BK238.out 2).trans rfl;have hcz18_3 : w17.cell? ⟨gb238,3,none⟩ = some (.slice A0_3 l0_3.length c0_3):=(bC_ BK238.out 3).trans rfl;have hcz18_4 : w17.cell? ⟨gb238,4,none⟩ = some (.int .i64 a0_4):=(bC_ BK238.out 4).trans rfl;have hfz18_0:=bF_ BK238.out 0;have hfz18_1:=bF_ BK238.out 1;have hfz18_2:=bF_ BK238.out 2;have hfz18_3:=bF_ BK238.out 3;have hfz18_4:=bF_ BK238.out 4)|((with_reducible refine gate_dst (N:=8) rfl ?_);refine box_event ?hg (N:=8) ?hd (cs:=#[.slice none 0 0,.slice none 0 0,.int .i64 0]) (t:=26) ?hr ?_;(case hd => rfl);(case hg => rfl);(case hr => first|(go_simp;done)|(go_simp;rfl));intro gb241 hg w19 hbox hb;have n0_:=A0_.mk (blk_below (g:=gb238) (o:=.cells #[.int .i64 a0_0,.slice A0_1 l0_1.length c0_1,.slice A0_2 l0_2.length c0_2,.slice A0_3 l0_3.length c0_3,.int .i64 a0_4] 28 (0,0)) (by (with_reducible repeat (first|refine bN_ ?_ _|refine bD_ ?_|refine bA_ ?_ _));exact BK238.out) hb);have n1_:=A0_.mk (below_step (by repeat (first|(with_reducible first|exact HB.out|apply eA_|apply eN_|apply eD_|refine eS_ ?_ GE238.out)|exact HB.out)) hb);have n2_:=A0_.mk (hbox);have n3_:=A0_.mk ((by rw [hg];exact (below_size (by repeat (first|(with_reducible first|exact HB.out|apply eA_|apply eN_|apply eD_|refine eS_ ?_ GE238.out)|exact HB.out))) : w.heap.size ≤ gb241));have n4_:=A0_.mk ((by rw [hg];exact (below_size (by repeat (first|(with_reducible first|exact HB.out|apply eA_|apply eN_|apply eD_|refine eS_ ?_ GE238.out)|exact HB.out))) : w.heap.size ≤ gb241));have n5_:=A0_.mk ((by rw [hg];exact Nat.ne_of_lt (blk_lt (g:=gb238) (o:=.cells #[.int .i64 a0_0,.slice A0_1 l0_1.length c0_1,.slice A0_2 l0_2.length c0_2,.slice A0_3 l0_3.length c0_3,.int .i64 a0_4] 28 (0,0)) (by (with_reducible repeat (first|refine bN_ ?_ _|refine bD_ ?_|refine bA_ ?_ _));exact BK238.out)) : gb238 ≠ gb241));have n6_:=A0_.mk ((by rw [hg];exact Nat.ne_of_gt (blk_lt (g:=gb238) (o:=.cells #[.int .i64 a0_0,.slice A0_1 l0_1.length c0_1,.slice A0_2 l0_2.length c0_2,.slice A0_3 l0_3.length c0_3,.int .i64 a0_4] 28 (0,0)) (by (with_reducible repeat (first|refine bN_ ?_ _|refine bD_ ?_|refine bA_ ?_ _));exact BK238.out)) : gb241 ≠ gb238));clear BK238;clear HB;have BK238:=n0_;have HB:=n1_;have BK241:=n2_;have GW241:=n3_;have GE241:=n4_;have NB238_241:=n5_;have NB241_238:=n6_;clear n0_ n1_ n2_ n3_ n4_ n5_ n6_;clear hb hbox hg;have hnb20:=NB241_238.out;have hnc20:=NB238_241.out;have hcz21_0 : w19.cell? ⟨gb241,0,none⟩ = some (.slice none 0 0):=(bC_ BK241.out 0).trans rfl;have hcz21_1 : w19.cell? ⟨gb241,1,none⟩ = some (.slice none 0 0):=(bC_ BK241.out 1).trans rfl;have hcz21_2 : w19.cell? ⟨gb241,2,none⟩ = some (.int .i64 0):=(bC_ BK241.out 2).trans rfl;have hfz21_0:=bF_ BK241.out 0;have hfz21_1:=bF_ BK241.out 1;have hfz21_2:=bF_ BK241.out 2;have hcz22_0 : w19.cell? ⟨gb238,0,none⟩ = some (.int .i64 a0_0):=(bC_ BK238.out 0).trans rfl;have hcz22_1 : w19.cell? ⟨gb238,1,none⟩ = some (.slice A0_1 l0_1.length c0_1):=(bC_ BK238.out 1).trans rfl;have hcz22_2 : w19.cell? ⟨gb238,2,none⟩ = some (.slice A0_2 l0_2.length c0_2):=(bC_ BK238.out 2).trans rfl;have hcz22_3 : w19.cell? ⟨gb238,3,none⟩ = some (.slice A0_3 l0_3.length c0_3):=(bC_ BK238.out 3).trans rfl;have hcz22_4 : w19.cell? ⟨gb238,4,none⟩ = some (.int .i64 a0_4):=(bC_ BK238.out 4).trans rfl;have hfz22_0:=bF_ BK238.out 0;have hfz22_1:=bF_ BK238.out 1;have hfz22_2:=bF_ BK238.out 2;have hfz22_3:=bF_ BK238.out 3;have hfz22_4:=bF_ BK238.out 4))
       (try simp only [Act.put,List.setIfInBounds_toArray,List.set_cons_zero,List.set_cons_succ])
       go_cut [74] (fun v74 wc => ∃ (kq : Nat) (x74_14 : Bool),v74 = .bool x74_14 ∧ A0_ (stim_Check.j1 kq a2 x74_14 l0_2 l0_3 a0_4 = some r) ∧ A0_ (kq ≤ kj5) ∧ A0_ (wc.heap[gb238]? = some (.cells #[.int .i64 a0_0,(.slice A0_1 l0_1.length c0_1),(.slice A0_2 l0_2.length c0_2),(.slice A0_3 l0_3.length c0_3),.int .i64 a0_4] 28 (0,0))) ∧ A0_ (wc.heap[gb241]? = some (.cells #[(.slice A0_2 l0_2.length c0_2),(.slice A0_3 l0_3.length c0_3),.int .i64 a0_4] 26 (0,0))) ∧ A0_ (Below w.heap.size w wc))
       case first =>
        have H:=HC15.out
        clear HC15
        by_cases c23 : (l0_2.length : Int) = a1
        ·rw [if_pos c23] at H
         have c23b0 : ((l0_2.length : Int) == a1) = true:=beq_iff_eq.mpr c23
         have c23b1 : ((l0_2.length : Int) != a1) = false:=bne_eq_false_iff_eq.mpr c23
         clear c23
         (first|rw [c23b0]|(simp only [i64_w,i32_w];rw [c23b0])|skip)
         by_cases c24 : (l0_3.length : Int) = 0
         ·rw [if_pos c24] at H
          have c24b0 : ((l0_3.length : Int) == 0) = true:=beq_iff_eq.mpr c24
          have c24b1 : ((l0_3.length : Int) != 0) = false:=bne_eq_false_iff_eq.mpr c24
          clear c24
          have H':=A0_.mk H
          clear H
          have hnb25:=NB241_238.out
          have hnc25:=NB238_241.out
          have hcz26_0 : w19.cell? ⟨gb241,0,none⟩ = some (.slice none 0 0):=(bC_ BK241.out 0).trans rfl
          have hcz26_1 : w19.cell? ⟨gb241,1,none⟩ = some (.slice none 0 0):=(bC_ BK241.out 1).trans rfl
          have hcz26_2 : w19.cell? ⟨gb241,2,none⟩ = some (.int .i64 0):=(bC_ BK241.out 2).trans rfl
          have hfz26_0:=bF_ BK241.out 0
          have hfz26_1:=bF_ BK241.out 1
          have hfz26_2:=bF_ BK241.out 2
          go_wp2
          go_meet
          case rel => exact ⟨_,(true),(by first|rfl|(simp;done)|(simp [*];done)),H',⟨by have:=HJ5.out;first|omega|exact Nat.le_refl _⟩,⟨by (with_reducible repeat (first|refine bN_ ?_ _|refine bD_ ?_|refine bA_ ?_ _));refine blk_far ?_ NB238_241.out _;(with_reducible repeat (first|refine bN_ ?_ _|refine bD_ ?_|refine bA_ ?_ _));refine blk_far ?_ NB238_241.out _;(with_reducible repeat (first|refine bN_ ?_ _|refine bD_ ?_|refine bA_ ?_ _));refine blk_far ?_ NB238_241.out _;(with_reducible repeat (first|refine bN_ ?_ _|refine bD_ ?_|refine bA_ ?_ _));exact BK238.out⟩,⟨by (with_reducible repeat (first|refine bN_ ?_ _|refine bD_ ?_|refine bA_ ?_ _));refine blk_put (cs:=#[.slice A0_2 l0_2.length c0_2,.slice A0_3 l0_3.length c0_3,.int .i64 0]) ?_ 2 _ rfl;(with_reducible repeat (first|refine bN_ ?_ _|refine bD_ ?_|refine bA_ ?_ _));refine blk_put (cs:=#[.slice A0_2 l0_2.length c0_2,.slice none 0 0,.int .i64 0]) ?_ 1 _ rfl;(with_reducible repeat (first|refine bN_ ?_ _|refine bD_ ?_|refine bA_ ?_ _));refine blk_put (cs:=#[.slice none 0 0,.slice none 0 0,.int .i64 0]) ?_ 0 _ rfl;(with_reducible repeat (first|refine bN_ ?_ _|refine bD_ ?_|refine bA_ ?_ _));exact BK241.out⟩,⟨by repeat (first|(with_reducible first|exact HB.out|apply eA_|apply eN_|apply eD_|refine eS_ ?_ GE238.out|refine eS_ ?_ GE241.out)|exact HB.out)⟩⟩
         ·rw [if_neg c24] at H
          have c24b0 : ((l0_3.length : Int) == 0) = false:=beq_eq_false_iff_ne.mpr c24
          have c24b1 : ((l0_3.length : Int) != 0) = true:=bne_iff_ne.mpr c24
          have c24b2 : ¬ (l0_3 = []):=fun h_ => c24 (by rw [h_];rfl)
          by_cases c27 : (l0_3.length : Int) > 512
          ·rw [if_pos c27] at H
           have c27b0 : decide (512 < (l0_3.length : Int)) = true:=decide_eq_true c27
           have c27b1 : decide (512 < l0_3.length) = true:=decide_eq_true (by omega)
           have c27b2 : 512 < l0_3.length:=by omega
           clear c27
           have H':=A0_.mk H
           clear H
           have hnb28:=NB241_238.out
           have hnc28:=NB238_241.out
           have hcz29_0 : w19.cell? ⟨gb241,0,none⟩ = some (.slice none 0 0):=(bC_ BK241.out 0).trans rfl
           have hcz29_1 : w19.cell? ⟨gb241,1,none⟩ = some (.slice none 0 0):=(bC_ BK241.out 1).trans rfl
           have hcz29_2 : w19.cell? ⟨gb241,2,none⟩ = some (.int .i64 0):=(bC_ BK241.out 2).trans rfl
           have hfz29_0:=bF_ BK241.out 0
           have hfz29_1:=bF_ BK241.out 1
           have hfz29_2:=bF_ BK241.out 2
           go_wp2
           go_meet
           case rel => exact ⟨_,(true),(by first|rfl|(simp;done)|(simp [*];done)),H',⟨by have:=HJ5.out;first|omega|exact Nat.le_refl _⟩,⟨by (with_reducible repeat (first|refine bN_ ?_ _|refine bD_ ?_|refine bA_ ?_ _));refine blk_far ?_ NB238_241.out _;(with_reducible repeat (first|refine bN_ ?_ _|refine bD_ ?_|refine bA_ ?_ _));refine blk_far ?_ NB238_241.out _;(with_reducible repeat (first|refine bN_ ?_ _|refine bD_ ?_|refine bA_ ?_ _));refine blk_far ?_ NB238_241.out _;(with_reducible repeat (first|refine bN_ ?_ _|refine bD_ ?_|refine bA_ ?_ _));exact BK238.out⟩,⟨by (with_reducible repeat (first|refine bN_ ?_ _|refine bD_ ?_|refine bA_ ?_ _));refine blk_put (cs:=#[.slice A0_2 l0_2.length c0_2,.slice A0_3 l0_3.length c0_3,.int .i64 0]) ?_ 2 _ rfl;(with_reducible repeat (first|refine bN_ ?_ _|refine bD_ ?_|refine bA_ ?_ _));refine blk_put (cs:=#[.slice A0_2 l0_2.length c0_2,.slice none 0 0,.int .i64 0]) ?_ 1 _ rfl;(with_reducible repeat (first|refine bN_ ?_ _|refine bD_ ?_|refine bA_ ?_ _));refine blk_put (cs:=#[.slice none 0 0,.slice none 0 0,.int .i64 0]) ?_ 0 _ rfl;(with_reducible repeat (first|refine bN_ ?_ _|refine bD_ ?_|refine bA_ ?_ _));exact BK241.out⟩,⟨by repeat (first|(with_reducible first|exact HB.out|apply eA_|apply eN_|apply eD_|refine eS_ ?_ GE238.out|refine eS_ ?_ GE241.out)|exact HB.out)⟩⟩
          ·rw [if_neg c27] at H
           have c27b0 : decide (512 < (l0_3.length : Int)) = false:=decide_eq_false c27
           have c27b1 : decide (512 < l0_3.length) = false:=decide_eq_false (by omega)
           have c27b2 : ¬ (512 < l0_3.length):=by omega
           clear c27
           by_cases c30 : a0_4 < (-1)
           ·rw [if_pos c30] at H
            have c30b0 : decide (a0_4 < (-1)) = true:=decide_eq_true c30
            clear c30
            have H':=A0_.mk H
            clear H
            have hnb31:=NB241_238.out
            have hnc31:=NB238_241.out
            have hcz32_0 : w19.cell? ⟨gb241,0,none⟩ = some (.slice none 0 0):=(bC_ BK241.out 0).trans rfl
            have hcz32_1 : w19.cell? ⟨gb241,1,none⟩ = some (.slice none 0 0):=(bC_ BK241.out 1).trans rfl
            have hcz32_2 : w19.cell? ⟨gb241,2,none⟩ = some (.int .i64 0):=(bC_ BK241.out 2).trans rfl
            have hfz32_0:=bF_ BK241.out 0
            have hfz32_1:=bF_ BK241.out 1
            have hfz32_2:=bF_ BK241.out 2
            go_wp2
            go_meet
            case rel => exact ⟨_,(true),(by first|rfl|(simp;done)|(simp [*];done)),H',⟨by have:=HJ5.out;first|omega|exact Nat.le_refl _⟩,⟨by (with_reducible repeat (first|refine bN_ ?_ _|refine bD_ ?_|refine bA_ ?_ _));refine blk_far ?_ NB238_241.out _;(with_reducible repeat (first|refine bN_ ?_ _|refine bD_ ?_|refine bA_ ?_ _));refine blk_far ?_ NB238_241.out _;(with_reducible repeat (first|refine bN_ ?_ _|refine bD_ ?_|refine bA_ ?_ _));refine blk_far ?_ NB238_241.out _;(with_reducible repeat (first|refine bN_ ?_ _|refine bD_ ?_|refine bA_ ?_ _));exact BK238.out⟩,⟨by (with_reducible repeat (first|refine bN_ ?_ _|refine bD_ ?_|refine bA_ ?_ _));refine blk_put (cs:=#[.slice A0_2 l0_2.length c0_2,.slice A0_3 l0_3.length c0_3,.int .i64 0]) ?_ 2 _ rfl;(with_reducible repeat (first|refine bN_ ?_ _|refine bD_ ?_|refine bA_ ?_ _));refine blk_put (cs:=#[.slice A0_2 l0_2.length c0_2,.slice none 0 0,.int .i64 0]) ?_ 1 _ rfl;(with_reducible repeat (first|refine bN_ ?_ _|refine bD_ ?_|refine bA_ ?_ _));refine blk_put (cs:=#[.slice none 0 0,.slice none 0 0,.int .i64 0]) ?_ 0 _ rfl;(with_reducible repeat (first|refine bN_ ?_ _|refine bD_ ?_|refine bA_ ?_ _));exact BK241.out⟩,⟨by repeat (first|(with_reducible first|exact HB.out|apply eA_|apply eN_|apply eD_|refine eS_ ?_ GE238.out|refine eS_ ?_ GE241.out)|exact HB.out)⟩⟩
           ·rw [if_neg c30] at H
            have c30b0 : decide (a0_4 < (-1)) = false:=decide_eq_false c30
            clear c30
            have H':=A0_.mk H
            clear H
            have hnb33:=NB241_238.out
            have hnc33:=NB238_241.out
            have hcz34_0 : w19.cell? ⟨gb241,0,none⟩ = some (.slice none 0 0):=(bC_ BK241.out 0).trans rfl
            have hcz34_1 : w19.cell? ⟨gb241,1,none⟩ = some (.slice none 0 0):=(bC_ BK241.out 1).trans rfl
            have hcz34_2 : w19.cell? ⟨gb241,2,none⟩ = some (.int .i64 0):=(bC_ BK241.out 2).trans rfl
            have hfz34_0:=bF_ BK241.out 0
            have hfz34_1:=bF_ BK241.out 1
            have hfz34_2:=bF_ BK241.out 2
            go_wp2
            go_meet
            case rel => exact ⟨_,(decide (a0_4 ≥ (l0_3.length : Int))),(by first|rfl|(simp;done)|(simp [*];done)),H',⟨by have:=HJ5.out;first|omega|exact Nat.le_refl _⟩,⟨by (with_reducible repeat (first|refine bN_ ?_ _|refine bD_ ?_|refine bA_ ?_ _));refine blk_far ?_ NB238_241.out _;(with_reducible repeat (first|refine bN_ ?_ _|refine bD_ ?_|refine bA_ ?_ _));refine blk_far ?_ NB238_241.out _;(with_reducible repeat (first|refine bN_ ?_ _|refine bD_ ?_|refine bA_ ?_ _));refine blk_far ?_ NB238_241.out _;(with_reducible repeat (first|refine bN_ ?_ _|refine bD_ ?_|refine bA_ ?_ _));exact BK238.out⟩,⟨by (with_reducible repeat (first|refine bN_ ?_ _|refine bD_ ?_|refine bA_ ?_ _));refine blk_put (cs:=#[.slice A0_2 l0_2.length c0_2,.slice A0_3 l0_3.length c0_3,.int .i64 0]) ?_ 2 _ rfl;(with_reducible repeat (first|refine bN_ ?_ _|refine bD_ ?_|refine bA_ ?_ _));refine blk_put (cs:=#[.slice A0_2 l0_2.length c0_2,.slice none 0 0,.int .i64 0]) ?_ 1 _ rfl;(with_reducible repeat (first|refine bN_ ?_ _|refine bD_ ?_|refine bA_ ?_ _));refine blk_put (cs:=#[.slice none 0 0,.slice none 0 0,.int .i64 0]) ?_ 0 _ rfl;(with_reducible repeat (first|refine bN_ ?_ _|refine bD_ ?_|refine bA_ ?_ _));exact BK241.out⟩,⟨by repeat (first|(with_reducible first|exact HB.out|apply eA_|apply eN_|apply eD_|refine eS_ ?_ GE238.out|refine eS_ ?_ GE241.out)|exact HB.out)⟩⟩
        ·rw [if_neg c23] at H
         have c23b0 : ((l0_2.length : Int) == a1) = false:=beq_eq_false_iff_ne.mpr c23
         have c23b1 : ((l0_2.length : Int) != a1) = true:=bne_iff_ne.mpr c23
         (first|rw [c23b0]|(simp only [i64_w,i32_w];rw [c23b0])|skip)
         have H':=A0_.mk H
         clear H
         have hnb35:=NB241_238.out
         have hnc35:=NB238_241.out
         have hcz36_0 : w19.cell? ⟨gb241,0,none⟩ = some (.slice none 0 0):=(bC_ BK241.out 0).trans rfl
         have hcz36_1 : w19.cell? ⟨gb241,1,none⟩ = some (.slice none 0 0):=(bC_ BK241.out 1).trans rfl
         have hcz36_2 : w19.cell? ⟨gb241,2,none⟩ = some (.int .i64 0):=(bC_ BK241.out 2).trans rfl
         have hfz36_0:=bF_ BK241.out 0
         have hfz36_1:=bF_ BK241.out 1
         have hfz36_2:=bF_ BK241.out 2
         go_wp2
         go_meet
         case rel => exact ⟨_,(true),(by first|rfl|(simp;done)|(simp [*];done)),H',⟨by have:=HJ5.out;first|omega|exact Nat.le_refl _⟩,⟨by (with_reducible repeat (first|refine bN_ ?_ _|refine bD_ ?_|refine bA_ ?_ _));refine blk_far ?_ NB238_241.out _;(with_reducible repeat (first|refine bN_ ?_ _|refine bD_ ?_|refine bA_ ?_ _));refine blk_far ?_ NB238_241.out _;(with_reducible repeat (first|refine bN_ ?_ _|refine bD_ ?_|refine bA_ ?_ _));refine blk_far ?_ NB238_241.out _;(with_reducible repeat (first|refine bN_ ?_ _|refine bD_ ?_|refine bA_ ?_ _));exact BK238.out⟩,⟨by (with_reducible repeat (first|refine bN_ ?_ _|refine bD_ ?_|refine bA_ ?_ _));refine blk_put (cs:=#[.slice A0_2 l0_2.length c0_2,.slice A0_3 l0_3.length c0_3,.int .i64 0]) ?_ 2 _ rfl;(with_reducible repeat (first|refine bN_ ?_ _|refine bD_ ?_|refine bA_ ?_ _));refine blk_put (cs:=#[.slice A0_2 l0_2.length c0_2,.slice none 0 0,.int .i64 0]) ?_ 1 _ rfl;(with_reducible repeat (first|refine bN_ ?_ _|refine bD_ ?_|refine bA_ ?_ _));refine blk_put (cs:=#[.slice none 0 0,.slice none 0 0,.int .i64 0]) ?_ 0 _ rfl;(with_reducible repeat (first|refine bN_ ?_ _|refine bD_ ?_|refine bA_ ?_ _));exact BK241.out⟩,⟨by repeat (first|(with_reducible first|exact HB.out|apply eA_|apply eN_|apply eD_|refine eS_ ?_ GE238.out|refine eS_ ?_ GE241.out)|exact HB.out)⟩⟩
       case rest =>
        clear HC15
        try clear c1
        try clear c2
        try clear p2
        try clear c3
        try clear c4
        try clear c5
        try clear p6
        try clear c8
        try clear c8b0
        try clear c11
        try clear c13
        try clear c13b0
        try clear c13b1
        try clear c14
        try clear c14b0
        try clear c14b1
        try clear c15
        try clear c20
        try clear c23
        try clear c23b0
        try clear c23b1
        try clear c24
        try clear c24b0
        try clear c24b1
        try clear c24b2
        try clear c25
        try clear c27
        try clear c27b0
        try clear c27b1
        try clear c27b2
        try clear c28
        try clear c30
        try clear c30b0
        try clear c31
        try clear c33
        try clear c35
        try clear hcz10_0
        try clear hcz10_1
        try clear hcz10_2
        try clear hcz10_3
        try clear hcz10_4
        try clear hcz16_0
        try clear hcz16_1
        try clear hcz16_2
        try clear hcz16_3
        try clear hcz16_4
        try clear hcz18_0
        try clear hcz18_1
        try clear hcz18_2
        try clear hcz18_3
        try clear hcz18_4
        try clear hcz21_0
        try clear hcz21_1
        try clear hcz21_2
        try clear hcz22_0
        try clear hcz22_1
        try clear hcz22_2
        try clear hcz22_3
        try clear hcz22_4
        try clear hcz26_0
        try clear hcz26_1
        try clear hcz26_2
        try clear hcz29_0
        try clear hcz29_1
        try clear hcz29_2
        try clear hcz32_0
        try clear hcz32_1
        try clear hcz32_2
        try clear hcz34_0
        try clear hcz34_1
        try clear hcz34_2
        try clear hcz36_0
        try clear hcz36_1
        try clear hcz36_2
        try clear hcz9_0
        try clear hcz9_1
        try clear hcz9_2
        try clear hcz9_3
        try clear hcz9_4
        try clear hfz10_0
        try clear hfz10_1
        try clear hfz10_2
        try clear hfz10_3
        try clear hfz10_4
        try clear hfz16_0
        try clear hfz16_1
        try clear hfz16_2
        try clear hfz16_3
        try clear hfz16_4
        try clear hfz18_0
        try clear hfz18_1
        try clear hfz18_2
        try clear hfz18_3
        try clear hfz18_4
        try clear hfz21_0
        try clear hfz21_1
        try clear hfz21_2
        try clear hfz22_0
        try clear hfz22_1
        try clear hfz22_2
        try clear hfz22_3
        try clear hfz22_4
        try clear hfz26_0
        try clear hfz26_1
        try clear hfz26_2
        try clear hfz29_0
        try clear hfz29_1
        try clear hfz29_2
        try clear hfz32_0
        try clear hfz32_1
        try clear hfz32_2
        try clear hfz34_0
        try clear hfz34_1
        try clear hfz34_2
        try clear hfz36_0
        try clear hfz36_1
        try clear hfz36_2
        try clear hfz9_0
        try clear hfz9_1
        try clear hfz9_2
        try clear hfz9_3
        try clear hfz9_4
        try clear p2
        obtain ⟨kq,x74_14,rfl,HA,HJ14,BK238,BK241,HB⟩:=hcut
        cases kq with
        |zero => exact absurd HA.out (by simp [stim_Check.j1])
        |succ kj14 =>
         have H:=HA.out
         clear HA
         simp only [stim_Check.j1] at H
         by_cases c37 : x74_14 = true
         ·subst c37
          have H1 : (some 4) = some r:=by rw [if_pos rfl] at H;exact H
          clear H
          have H:=H1
          clear H1
          obtain rfl:=Option.some.inj H
          go_wp2
          go_ret
          exact ⟨by first|rfl|(simp [errW_none,errW_some] <;> rfl)|(simp [*,errW_none,errW_some] <;> rfl),by repeat (first|(with_reducible first|exact HB.out|apply eA_|apply eN_|apply eD_|refine eS_ ?_ GE238.out|refine eS_ ?_ GE241.out)|exact HB.out)⟩
         ·replace c37:=Bool.eq_false_iff.mpr c37
          subst c37
          have H1 : (stim_Check.l0 kj14 a2 l0_3 (l0_3.length : Int) 0) = some r:=by rw [if_neg (show ¬ (false = true) by decide)] at H;exact H
          clear H
          have H:=H1
          clear H1
          have H':=A0_.mk H
          clear H
          have hnb38:=NB241_238.out
          have hnc38:=NB238_241.out
          have hcz39_0 : wc.cell? ⟨gb241,0,none⟩ = some (.slice A0_2 l0_2.length c0_2):=(bC_ BK241.out 0).trans rfl
          have hcz39_1 : wc.cell? ⟨gb241,1,none⟩ = some (.slice A0_3 l0_3.length c0_3):=(bC_ BK241.out 1).trans rfl
          have hcz39_2 : wc.cell? ⟨gb241,2,none⟩ = some (.int .i64 a0_4):=(bC_ BK241.out 2).trans rfl
          have hfz39_0:=bF_ BK241.out 0
          have hfz39_1:=bF_ BK241.out 1
          have hfz39_2:=bF_ BK241.out 2
          go_wp2
          (try simp only [Act.put,List.setIfInBounds_toArray,List.set_cons_zero,List.set_cons_succ])
          go_loopg [78] kj14 (fun kq v78 w' => ∃ (x78_3 : Int),v78 = .int .i64 x78_3 ∧ A0_ (stim_Check.l0 kq a2 l0_3 (l0_3.length : Int) x78_3 = some r) ∧ A0_ (kq ≤ kj14) ∧ A0_ (w'.heap[gb238]? = some (.cells #[.int .i64 a0_0,(.slice A0_1 l0_1.length c0_1),(.slice A0_2 l0_2.length c0_2),(.slice A0_3 l0_3.length c0_3),.int .i64 a0_4] 28 (0,0))) ∧ A0_ (w'.heap[gb241]? = some (.cells #[(.slice A0_2 l0_2.length c0_2),(.slice A0_3 l0_3.length c0_3),.int .i64 a0_4] 26 (0,0))) ∧ A0_ (Below w.heap.size w w'))
          case atStart => exact ⟨(0),(by first|rfl|(simp;done)|(simp [*];done)),H',⟨Nat.le_refl _⟩,⟨by (with_reducible repeat (first|refine bN_ ?_ _|refine bD_ ?_|refine bA_ ?_ _));exact BK238.out⟩,⟨by (with_reducible repeat (first|refine bN_ ?_ _|refine bD_ ?_|refine bA_ ?_ _));exact BK241.out⟩,⟨by repeat (first|(with_reducible first|exact HB.out|apply eA_|apply eN_|apply eD_|refine eS_ ?_ GE238.out|refine eS_ ?_ GE241.out)|exact HB.out)⟩⟩
          case round =>
           clear H'
           try clear c1
           try clear c2
           try clear p2
           try clear c3
           try clear c4
           try clear c5
           try clear p6
           try clear c8
           try clear c8b0
           try clear c11
           try clear c13
           try clear c13b0
           try clear c13b1
           try clear c14
           try clear c14b0
           try clear c14b1
           try clear c15
           try clear c20
           try clear c23
           try clear c23b0
           try clear c23b1
           try clear c24
           try clear c24b0
           try clear c24b1
           try clear c24b2
           try clear c25
           try clear c27
           try clear c27b0
           try clear c27b1
           try clear c27b2
           try clear c28
           try clear c30
           try clear c30b0
           try clear c31
           try clear c33
           try clear c35
           try clear c37
           try clear c38
           try clear hcz10_0
           try clear hcz10_1
           try clear hcz10_2
           try clear hcz10_3
           try clear hcz10_4
           try clear hcz16_0
           try clear hcz16_1
           try clear hcz16_2
           try clear hcz16_3
           try clear hcz16_4
           try clear hcz18_0
           try clear hcz18_1
           try clear hcz18_2
           try clear hcz18_3
           try clear hcz18_4
           try clear hcz21_0
           try clear hcz21_1
           try clear hcz21_2
           try clear hcz22_0
           try clear hcz22_1
           try clear hcz22_2
           try clear hcz22_3
           try clear hcz22_4
           try clear hcz26_0
           try clear hcz26_1
           try clear hcz26_2
           try clear hcz29_0
           try clear hcz29_1
           try clear hcz29_2
           try clear hcz32_0
           try clear hcz32_1
           try clear hcz32_2
           try clear hcz34_0
           try clear hcz34_1
           try clear hcz34_2
           try clear hcz36_0
           try clear hcz36_1
           try clear hcz36_2
           try clear hcz39_0
           try clear hcz39_1
           try clear hcz39_2
           try clear hcz9_0
           try clear hcz9_1
           try clear hcz9_2
           try clear hcz9_3
           try clear hcz9_4
           try clear hfz10_0
           try clear hfz10_1
           try clear hfz10_2
           try clear hfz10_3
           try clear hfz10_4
           try clear hfz16_0
           try clear hfz16_1
           try clear hfz16_2
           try clear hfz16_3
           try clear hfz16_4
           try clear hfz18_0
           try clear hfz18_1
           try clear hfz18_2
           try clear hfz18_3
           try clear hfz18_4
           try clear hfz21_0
           try clear hfz21_1
           try clear hfz21_2
           try clear hfz22_0
           try clear hfz22_1
           try clear hfz22_2
           try clear hfz22_3
           try clear hfz22_4
           try clear hfz26_0
           try clear hfz26_1
           try clear hfz26_2
           try clear hfz29_0
           try clear hfz29_1
           try clear hfz29_2
           try clear hfz32_0
           try clear hfz32_1
           try clear hfz32_2
           try clear hfz34_0
           try clear hfz34_1
           try clear hfz34_2
           try clear hfz36_0
           try clear hfz36_1
           try clear hfz36_2
           try clear hfz39_0
           try clear hfz39_1
           try clear hfz39_2
           try clear hfz9_0
           try clear hfz9_1
           try clear hfz9_2
           try clear hfz9_3
           try clear hfz9_4
           try clear p2
           try clear p6
           obtain ⟨x78_3,rfl,HA,HK3,BK238,BK241,HB⟩:=hrel
           cases gk with
           |zero => exact absurd HA.out (by simp [stim_Check.l0])
           |succ k3 =>
            have H:=HA.out
            clear HA
            simp only [stim_Check.l0] at H
            by_cases c40 : x78_3 < (l0_3.length : Int)
            ·rw [if_pos c40] at H
             have c40b0 : decide (x78_3 < (l0_3.length : Int)) = true:=decide_eq_true c40
             clear c40
             by_cases c41 : 0 ≤ x78_3
             ·rw [if_pos c41] at H
              have c41b0 : decide (0 ≤ x78_3) = true:=decide_eq_true c41
              clear c41
              by_cases c42 : x78_3 < (l0_3.length : Int)
              ·rw [if_pos c42] at H
               have c42b0 : decide (x78_3 < (l0_3.length : Int)) = true:=decide_eq_true c42
               clear c42
               by_cases c43 : ((rd_L6 l0_3 x78_3).length : Int) = a2
               ·rw [if_pos c43] at H
                have c43b0 : (((rd_L6 l0_3 x78_3).length : Int) == a2) = true:=beq_iff_eq.mpr c43
                have c43b1 : (((rd_L6 l0_3 x78_3).length : Int) != a2) = false:=bne_eq_false_iff_eq.mpr c43
                clear c43
                have H':=A0_.mk H
                clear H
                have p242 : 0 ≤ (x78_3 : Int):=of_decide_eq_true (by first|(with_reducible assumption)|assumption)
                have q242 : x78_3 < (l0_3.length : Int):=of_decide_eq_true (by first|(with_reducible assumption)|assumption)
                obtain ⟨ad242,A242_0,c242_0,e242,hx242_0,hl242_0,hi242_0⟩:=at_L6 HR0_3.out x78_3 p242 q242
                cases e242
                replace hx242_0:=(HB.out.cell (World.block_lt_of_cell? w _ hx242_0)).trans hx242_0
                have HR242_0:=A0_.mk hi242_0
                have HC242_0:=A0_.mk hl242_0
                clear hi242_0 hl242_0
                replace p242:=eq_true p242
                replace q242:=eq_true q242
                go_wp2
                go_roundg k3
                case measure => have:=HJ5.out;have:=HJ14.out;have:=HK3.out;omega
                case rel => exact ⟨(wrap64 (x78_3 + 1)),(by first|rfl|(simp;done)|(simp [*];done)),H',⟨by have:=HJ5.out;have:=HJ14.out;have:=HK3.out;omega⟩,⟨by (with_reducible repeat (first|refine bN_ ?_ _|refine bD_ ?_|refine bA_ ?_ _));exact BK238.out⟩,⟨by (with_reducible repeat (first|refine bN_ ?_ _|refine bD_ ?_|refine bA_ ?_ _));exact BK241.out⟩,⟨by repeat (first|(with_reducible first|exact HB.out|apply eA_|apply eN_|apply eD_|refine eS_ ?_ GE238.out|refine eS_ ?_ GE241.out)|exact HB.out)⟩⟩
               ·rw [if_neg c43] at H
                have c43b0 : (((rd_L6 l0_3 x78_3).length : Int) == a2) = false:=beq_eq_false_iff_ne.mpr c43
                have c43b1 : (((rd_L6 l0_3 x78_3).length : Int) != a2) = true:=bne_iff_ne.mpr c43
                obtain rfl:=Option.some.inj H
                have p242 : 0 ≤ (x78_3 : Int):=of_decide_eq_true (by first|(with_reducible assumption)|assumption)
                have q242 : x78_3 < (l0_3.length : Int):=of_decide_eq_true (by first|(with_reducible assumption)|assumption)
                obtain ⟨ad242,A242_0,c242_0,e242,hx242_0,hl242_0,hi242_0⟩:=at_L6 HR0_3.out x78_3 p242 q242
                cases e242
                replace hx242_0:=(HB.out.cell (World.block_lt_of_cell? w _ hx242_0)).trans hx242_0
                have HR242_0:=A0_.mk hi242_0
                have HC242_0:=A0_.mk hl242_0
                clear hi242_0 hl242_0
                replace p242:=eq_true p242
                replace q242:=eq_true q242
                go_wp2
                go_ret
                exact ⟨by first|rfl|(simp [errW_none,errW_some] <;> rfl)|(simp [*,errW_none,errW_some] <;> rfl),by repeat (first|(with_reducible first|exact HB.out|apply eA_|apply eN_|apply eD_|refine eS_ ?_ GE238.out|refine eS_ ?_ GE241.out)|exact HB.out)⟩
              ·rw [if_neg c42] at H
               exact absurd H (by simp)
             ·rw [if_neg c41] at H
              exact absurd H (by simp)
            ·rw [if_neg c40] at H
             have c40b0 : decide (x78_3 < (l0_3.length : Int)) = false:=decide_eq_false c40
             clear c40
             obtain rfl:=Option.some.inj H
             go_wp2
             go_ret
             exact ⟨by first|rfl|(simp [errW_none,errW_some] <;> rfl)|(simp [*,errW_none,errW_some] <;> rfl),by repeat (first|(with_reducible first|exact HB.out|apply eA_|apply eN_|apply eD_|refine eS_ ?_ GE238.out|refine eS_ ?_ GE241.out)|exact HB.out)⟩
      ·rw [if_neg c14] at H
       have c14b0 : (a0_0 == 1) = false:=beq_eq_false_iff_ne.mpr c14
       have c14b1 : (a0_0 != 1) = true:=bne_iff_ne.mpr c14
       by_cases c44 : (wrap64 ((l0_2.length : Int) + (l0_3.length : Int))) > 0
       ·rw [if_pos c44] at H
        have c44b0 : decide (0 < (wrap64 ((l0_2.length : Int) + (l0_3.length : Int)))) = true:=decide_eq_true c44
        clear c44
        obtain rfl:=Option.some.inj H
        have hcz45_0 : wc.cell? ⟨gb238,0,none⟩ = some (.int .i64 a0_0):=(bC_ BK238.out 0).trans rfl
        have hcz45_1 : wc.cell? ⟨gb238,1,none⟩ = some (.slice A0_1 l0_1.length c0_1):=(bC_ BK238.out 1).trans rfl
        have hcz45_2 : wc.cell? ⟨gb238,2,none⟩ = some (.slice A0_2 l0_2.length c0_2):=(bC_ BK238.out 2).trans rfl
        have hcz45_3 : wc.cell? ⟨gb238,3,none⟩ = some (.slice A0_3 l0_3.length c0_3):=(bC_ BK238.out 3).trans rfl
        have hcz45_4 : wc.cell? ⟨gb238,4,none⟩ = some (.int .i64 a0_4):=(bC_ BK238.out 4).trans rfl
        have hfz45_0:=bF_ BK238.out 0
        have hfz45_1:=bF_ BK238.out 1
        have hfz45_2:=bF_ BK238.out 2
        have hfz45_3:=bF_ BK238.out 3
        have hfz45_4:=bF_ BK238.out 4
        go_wp2_with (first|((with_reducible refine gate_callee (f:=41) rfl ?_);refine goesL_ (some 26) rfl rfl Tryd.func41 (by kernel_rfl) rfl #[.slice A0_1 l0_1.length c0_1] rfl (by (try simp only [List.map_toArray,List.map_cons,List.map_nil]);first|done|rfl|(simp only [List.length_drop,List.length_take];rfl)) ?_;(with_reducible refine (stim_props.calls _ _ l0_1 t240 _ ?side1 ?side2 A12.out).mono ?_);(case side1 => repeat (first|exact (Kd.C_below HR0_1.out HB.out)|(with_reducible refine Kd.C_alloc ?_ _)|(with_reducible refine Kd.C_drewN ?_ _)|(with_reducible refine Kd.C_drew ?_)));(case side2 => exact HC0_1.out);rintro e w46 ⟨rfl,hb⟩;refine ⟨_,rfl,?_⟩;have n0_:=A0_.mk (blk_below (g:=gb238) (o:=.cells #[.int .i64 a0_0,.slice A0_1 l0_1.length c0_1,.slice A0_2 l0_2.length c0_2,.slice A0_3 l0_3.length c0_3,.int .i64 a0_4] 28 (0,0)) (by (with_reducible repeat (first|refine bN_ ?_ _|refine bD_ ?_|refine bA_ ?_ _));exact BK238.out) hb);have n1_:=A0_.mk (below_step (by repeat (first|(with_reducible first|exact HB.out|apply eA_|apply eN_|apply eD_|refine eS_ ?_ GE238.out)|exact HB.out)) hb);clear BK238;clear HB;have BK238:=n0_;have HB:=n1_;clear n0_ n1_;(try clear hb);(try clear hb2);(try clear hk);(try clear hi);have hcz47_0 : w46.cell? ⟨gb238,0,none⟩ = some (.int .i64 a0_0):=(bC_ BK238.out 0).trans rfl;have hcz47_1 : w46.cell? ⟨gb238,1,none⟩ = some (.slice A0_1 l0_1.length c0_1):=(bC_ BK238.out 1).trans rfl;have hcz47_2 : w46.cell? ⟨gb238,2,none⟩ = some (.slice A0_2 l0_2.length c0_2):=(bC_ BK238.out 2).trans rfl;have hcz47_3 : w46.cell? ⟨gb238,3,none⟩ = some (.slice A0_3 l0_3.length c0_3):=(bC_ BK238.out 3).trans rfl;have hcz47_4 : w46.cell? ⟨gb238,4,none⟩ = some (.int .i64 a0_4):=(bC_ BK238.out 4).trans rfl;have hfz47_0:=bF_ BK238.out 0;have hfz47_1:=bF_ BK238.out 1;have hfz47_2:=bF_ BK238.out 2;have hfz47_3:=bF_ BK238.out 3;have hfz47_4:=bF_ BK238.out 4)|((with_reducible refine gate_dst (N:=8) rfl ?_);refine box_event ?hg (N:=8) ?hd (cs:=#[.slice none 0 0,.slice none 0 0,.int .i64 0]) (t:=26) ?hr ?_;(case hd => rfl);(case hg => rfl);(case hr => first|(go_simp;done)|(go_simp;rfl));intro gb241 hg w48 hbox hb;have n0_:=A0_.mk (blk_below (g:=gb238) (o:=.cells #[.int .i64 a0_0,.slice A0_1 l0_1.length c0_1,.slice A0_2 l0_2.length c0_2,.slice A0_3 l0_3.length c0_3,.int .i64 a0_4] 28 (0,0)) (by (with_reducible repeat (first|refine bN_ ?_ _|refine bD_ ?_|refine bA_ ?_ _));exact BK238.out) hb);have n1_:=A0_.mk (below_step (by repeat (first|(with_reducible first|exact HB.out|apply eA_|apply eN_|apply eD_|refine eS_ ?_ GE238.out)|exact HB.out)) hb);have n2_:=A0_.mk (hbox);have n3_:=A0_.mk ((by rw [hg];exact (below_size (by repeat (first|(with_reducible first|exact HB.out|apply eA_|apply eN_|apply eD_|refine eS_ ?_ GE238.out)|exact HB.out))) : w.heap.size ≤ gb241));have n4_:=A0_.mk ((by rw [hg];exact (below_size (by repeat (first|(with_reducible first|exact HB.out|apply eA_|apply eN_|apply eD_|refine eS_ ?_ GE238.out)|exact HB.out))) : w.heap.size ≤ gb241));have n5_:=A0_.mk ((by rw [hg];exact Nat.ne_of_lt (blk_lt (g:=gb238) (o:=.cells #[.int .i64 a0_0,.slice A0_1 l0_1.length c0_1,.slice A0_2 l0_2.length c0_2,.slice A0_3 l0_3.length c0_3,.int .i64 a0_4] 28 (0,0)) (by (with_reducible repeat (first|refine bN_ ?_ _|refine bD_ ?_|refine bA_ ?_ _));exact BK238.out)) : gb238 ≠ gb241));have n6_:=A0_.mk ((by rw [hg];exact Nat.ne_of_gt (blk_lt (g:=gb238) (o:=.cells #[.int .i64 a0_0,.slice A0_1 l0_1.length c0_1,.slice A0_2 l0_2.length c0_2,.slice A0_3 l0_3.length c0_3,.int .i64 a0_4] 28 (0,0)) (by (with_reducible repeat (first|refine bN_ ?_ _|refine bD_ ?_|refine bA_ ?_ _));exact BK238.out)) : gb241 ≠ gb238));clear BK238;clear HB;have BK238:=n0_;have HB:=n1_;have BK241:=n2_;have GW241:=n3_;have GE241:=n4_;have NB238_241:=n5_;have NB241_238:=n6_;clear n0_ n1_ n2_ n3_ n4_ n5_ n6_;clear hb hbox hg;have hnb49:=NB241_238.out;have hnc49:=NB238_241.out;have hcz50_0 : w48.cell? ⟨gb241,0,none⟩ = some (.slice none 0 0):=(bC_ BK241.out 0).trans rfl;have hcz50_1 : w48.cell? ⟨gb241,1,none⟩ = some (.slice none 0 0):=(bC_ BK241.out 1).trans rfl;have hcz50_2 : w48.cell? ⟨gb241,2,none⟩ = some (.int .i64 0):=(bC_ BK241.out 2).trans rfl;have hfz50_0:=bF_ BK241.out 0;have hfz50_1:=bF_ BK241.out 1;have hfz50_2:=bF_ BK241.out 2;have hcz51_0 : w48.cell? ⟨gb238,0,none⟩ = some (.int .i64 a0_0):=(bC_ BK238.out 0).trans rfl;have hcz51_1 : w48.cell? ⟨gb238,1,none⟩ = some (.slice A0_1 l0_1.length c0_1):=(bC_ BK238.out 1).trans rfl;have hcz51_2 : w48.cell? ⟨gb238,2,none⟩ = some (.slice A0_2 l0_2.length c0_2):=(bC_ BK238.out 2).trans rfl;have hcz51_3 : w48.cell? ⟨gb238,3,none⟩ = some (.slice A0_3 l0_3.length c0_3):=(bC_ BK238.out 3).trans rfl;have hcz51_4 : w48.cell? ⟨gb238,4,none⟩ = some (.int .i64 a0_4):=(bC_ BK238.out 4).trans rfl;have hfz51_0:=bF_ BK238.out 0;have hfz51_1:=bF_ BK238.out 1;have hfz51_2:=bF_ BK238.out 2;have hfz51_3:=bF_ BK238.out 3;have hfz51_4:=bF_ BK238.out 4))
        go_ret
        exact ⟨by first|rfl|(simp [errW_none,errW_some] <;> rfl)|(simp [*,errW_none,errW_some] <;> rfl),by repeat (first|(with_reducible first|exact HB.out|apply eA_|apply eN_|apply eD_|refine eS_ ?_ GE238.out|refine eS_ ?_ GE241.out)|exact HB.out)⟩
       ·rw [if_neg c44] at H
        have c44b0 : decide (0 < (wrap64 ((l0_2.length : Int) + (l0_3.length : Int)))) = false:=decide_eq_false c44
        clear c44
        by_cases c52 : a0_4 = 0
        ·rw [if_pos c52] at H
         have c52b0 : (a0_4 == 0) = true:=beq_iff_eq.mpr c52
         have c52b1 : (a0_4 != 0) = false:=bne_eq_false_iff_eq.mpr c52
         clear c52
         obtain rfl:=Option.some.inj H
         have hcz53_0 : wc.cell? ⟨gb238,0,none⟩ = some (.int .i64 a0_0):=(bC_ BK238.out 0).trans rfl
         have hcz53_1 : wc.cell? ⟨gb238,1,none⟩ = some (.slice A0_1 l0_1.length c0_1):=(bC_ BK238.out 1).trans rfl
         have hcz53_2 : wc.cell? ⟨gb238,2,none⟩ = some (.slice A0_2 l0_2.length c0_2):=(bC_ BK238.out 2).trans rfl
         have hcz53_3 : wc.cell? ⟨gb238,3,none⟩ = some (.slice A0_3 l0_3.length c0_3):=(bC_ BK238.out 3).trans rfl
         have hcz53_4 : wc.cell? ⟨gb238,4,none⟩ = some (.int .i64 a0_4):=(bC_ BK238.out 4).trans rfl
         have hfz53_0:=bF_ BK238.out 0
         have hfz53_1:=bF_ BK238.out 1
         have hfz53_2:=bF_ BK238.out 2
         have hfz53_3:=bF_ BK238.out 3
         have hfz53_4:=bF_ BK238.out 4
         go_wp2_with (first|((with_reducible refine gate_callee (f:=41) rfl ?_);refine goesL_ (some 26) rfl rfl Tryd.func41 (by kernel_rfl) rfl #[.slice A0_1 l0_1.length c0_1] rfl (by (try simp only [List.map_toArray,List.map_cons,List.map_nil]);first|done|rfl|(simp only [List.length_drop,List.length_take];rfl)) ?_;(with_reducible refine (stim_props.calls _ _ l0_1 t240 _ ?side1 ?side2 A12.out).mono ?_);(case side1 => repeat (first|exact (Kd.C_below HR0_1.out HB.out)|(with_reducible refine Kd.C_alloc ?_ _)|(with_reducible refine Kd.C_drewN ?_ _)|(with_reducible refine Kd.C_drew ?_)));(case side2 => exact HC0_1.out);rintro e w54 ⟨rfl,hb⟩;refine ⟨_,rfl,?_⟩;have n0_:=A0_.mk (blk_below (g:=gb238) (o:=.cells #[.int .i64 a0_0,.slice A0_1 l0_1.length c0_1,.slice A0_2 l0_2.length c0_2,.slice A0_3 l0_3.length c0_3,.int .i64 a0_4] 28 (0,0)) (by (with_reducible repeat (first|refine bN_ ?_ _|refine bD_ ?_|refine bA_ ?_ _));exact BK238.out) hb);have n1_:=A0_.mk (below_step (by repeat (first|(with_reducible first|exact HB.out|apply eA_|apply eN_|apply eD_|refine eS_ ?_ GE238.out)|exact HB.out)) hb);clear BK238;clear HB;have BK238:=n0_;have HB:=n1_;clear n0_ n1_;(try clear hb);(try clear hb2);(try clear hk);(try clear hi);have hcz55_0 : w54.cell? ⟨gb238,0,none⟩ = some (.int .i64 a0_0):=(bC_ BK238.out 0).trans rfl;have hcz55_1 : w54.cell? ⟨gb238,1,none⟩ = some (.slice A0_1 l0_1.length c0_1):=(bC_ BK238.out 1).trans rfl;have hcz55_2 : w54.cell? ⟨gb238,2,none⟩ = some (.slice A0_2 l0_2.length c0_2):=(bC_ BK238.out 2).trans rfl;have hcz55_3 : w54.cell? ⟨gb238,3,none⟩ = some (.slice A0_3 l0_3.length c0_3):=(bC_ BK238.out 3).trans rfl;have hcz55_4 : w54.cell? ⟨gb238,4,none⟩ = some (.int .i64 a0_4):=(bC_ BK238.out 4).trans rfl;have hfz55_0:=bF_ BK238.out 0;have hfz55_1:=bF_ BK238.out 1;have hfz55_2:=bF_ BK238.out 2;have hfz55_3:=bF_ BK238.out 3;have hfz55_4:=bF_ BK238.out 4)|((with_reducible refine gate_dst (N:=8) rfl ?_);refine box_event ?hg (N:=8) ?hd (cs:=#[.slice none 0 0,.slice none 0 0,.int .i64 0]) (t:=26) ?hr ?_;(case hd => rfl);(case hg => rfl);(case hr => first|(go_simp;done)|(go_simp;rfl));intro gb241 hg w56 hbox hb;have n0_:=A0_.mk (blk_below (g:=gb238) (o:=.cells #[.int .i64 a0_0,.slice A0_1 l0_1.length c0_1,.slice A0_2 l0_2.length c0_2,.slice A0_3 l0_3.length c0_3,.int .i64 a0_4] 28 (0,0)) (by (with_reducible repeat (first|refine bN_ ?_ _|refine bD_ ?_|refine bA_ ?_ _));exact BK238.out) hb);have n1_:=A0_.mk (below_step (by repeat (first|(with_reducible first|exact HB.out|apply eA_|apply eN_|apply eD_|refine eS_ ?_ GE238.out)|exact HB.out)) hb);have n2_:=A0_.mk (hbox);have n3_:=A0_.mk ((by rw [hg];exact (below_size (by repeat (first|(with_reducible first|exact HB.out|apply eA_|apply eN_|apply eD_|refine eS_ ?_ GE238.out)|exact HB.out))) : w.heap.size ≤ gb241));have n4_:=A0_.mk ((by rw [hg];exact (below_size (by repeat (first|(with_reducible first|exact HB.out|apply eA_|apply eN_|apply eD_|refine eS_ ?_ GE238.out)|exact HB.out))) : w.heap.size ≤ gb241));have n5_:=A0_.mk ((by rw [hg];exact Nat.ne_of_lt (blk_lt (g:=gb238) (o:=.cells #[.int .i64 a0_0,.slice A0_1 l0_1.length c0_1,.slice A0_2 l0_2.length c0_2,.slice A0_3 l0_3.length c0_3,.int .i64 a0_4] 28 (0,0)) (by (with_reducible repeat (first|refine bN_ ?_ _|refine bD_ ?_|refine bA_ ?_ _));exact BK238.out)) : gb238 ≠ gb241));have n6_:=A0_.mk ((by rw [hg];exact Nat.ne_of_gt (blk_lt (g:=gb238) (o:=.cells #[.int .i64 a0_0,.slice A0_1 l0_1.length c0_1,.slice A0_2 l0_2.length c0_2,.slice A0_3 l0_3.length c0_3,.int .i64 a0_4] 28 (0,0)) (by (with_reducible repeat (first|refine bN_ ?_ _|refine bD_ ?_|refine bA_ ?_ _));exact BK238.out)) : gb241 ≠ gb238));clear BK238;clear HB;have BK238:=n0_;have HB:=n1_;have BK241:=n2_;have GW241:=n3_;have GE241:=n4_;have NB238_241:=n5_;have NB241_238:=n6_;clear n0_ n1_ n2_ n3_ n4_ n5_ n6_;clear hb hbox hg;have hnb57:=NB241_238.out;have hnc57:=NB238_241.out;have hcz58_0 : w56.cell? ⟨gb241,0,none⟩ = some (.slice none 0 0):=(bC_ BK241.out 0).trans rfl;have hcz58_1 : w56.cell? ⟨gb241,1,none⟩ = some (.slice none 0 0):=(bC_ BK241.out 1).trans rfl;have hcz58_2 : w56.cell? ⟨gb241,2,none⟩ = some (.int .i64 0):=(bC_ BK241.out 2).trans rfl;have hfz58_0:=bF_ BK241.out 0;have hfz58_1:=bF_ BK241.out 1;have hfz58_2:=bF_ BK241.out 2;have hcz59_0 : w56.cell? ⟨gb238,0,none⟩ = some (.int .i64 a0_0):=(bC_ BK238.out 0).trans rfl;have hcz59_1 : w56.cell? ⟨gb238,1,none⟩ = some (.slice A0_1 l0_1.length c0_1):=(bC_ BK238.out 1).trans rfl;have hcz59_2 : w56.cell? ⟨gb238,2,none⟩ = some (.slice A0_2 l0_2.length c0_2):=(bC_ BK238.out 2).trans rfl;have hcz59_3 : w56.cell? ⟨gb238,3,none⟩ = some (.slice A0_3 l0_3.length c0_3):=(bC_ BK238.out 3).trans rfl;have hcz59_4 : w56.cell? ⟨gb238,4,none⟩ = some (.int .i64 a0_4):=(bC_ BK238.out 4).trans rfl;have hfz59_0:=bF_ BK238.out 0;have hfz59_1:=bF_ BK238.out 1;have hfz59_2:=bF_ BK238.out 2;have hfz59_3:=bF_ BK238.out 3;have hfz59_4:=bF_ BK238.out 4))
         go_ret
         exact ⟨by first|rfl|(simp [errW_none,errW_some] <;> rfl)|(simp [*,errW_none,errW_some] <;> rfl),by repeat (first|(with_reducible first|exact HB.out|apply eA_|apply eN_|apply eD_|refine eS_ ?_ GE238.out|refine eS_ ?_ GE241.out)|exact HB.out)⟩
        ·rw [if_neg c52] at H
         have c52b0 : (a0_4 == 0) = false:=beq_eq_false_iff_ne.mpr c52
         have c52b1 : (a0_4 != 0) = true:=bne_iff_ne.mpr c52
         obtain rfl:=Option.some.inj H
         have hcz60_0 : wc.cell? ⟨gb238,0,none⟩ = some (.int .i64 a0_0):=(bC_ BK238.out 0).trans rfl
         have hcz60_1 : wc.cell? ⟨gb238,1,none⟩ = some (.slice A0_1 l0_1.length c0_1):=(bC_ BK238.out 1).trans rfl
         have hcz60_2 : wc.cell? ⟨gb238,2,none⟩ = some (.slice A0_2 l0_2.length c0_2):=(bC_ BK238.out 2).trans rfl
         have hcz60_3 : wc.cell? ⟨gb238,3,none⟩ = some (.slice A0_3 l0_3.length c0_3):=(bC_ BK238.out 3).trans rfl
         have hcz60_4 : wc.cell? ⟨gb238,4,none⟩ = some (.int .i64 a0_4):=(bC_ BK238.out 4).trans rfl
         have hfz60_0:=bF_ BK238.out 0
         have hfz60_1:=bF_ BK238.out 1
         have hfz60_2:=bF_ BK238.out 2
         have hfz60_3:=bF_ BK238.out 3
         have hfz60_4:=bF_ BK238.out 4
         go_wp2_with (first|((with_reducible refine gate_callee (f:=41) rfl ?_);refine goesL_ (some 26) rfl rfl Tryd.func41 (by kernel_rfl) rfl #[.slice A0_1 l0_1.length c0_1] rfl (by (try simp only [List.map_toArray,List.map_cons,List.map_nil]);first|done|rfl|(simp only [List.length_drop,List.length_take];rfl)) ?_;(with_reducible refine (stim_props.calls _ _ l0_1 t240 _ ?side1 ?side2 A12.out).mono ?_);(case side1 => repeat (first|exact (Kd.C_below HR0_1.out HB.out)|(with_reducible refine Kd.C_alloc ?_ _)|(with_reducible refine Kd.C_drewN ?_ _)|(with_reducible refine Kd.C_drew ?_)));(case side2 => exact HC0_1.out);rintro e w61 ⟨rfl,hb⟩;refine ⟨_,rfl,?_⟩;have n0_:=A0_.mk (blk_below (g:=gb238) (o:=.cells #[.int .i64 a0_0,.slice A0_1 l0_1.length c0_1,.slice A0_2 l0_2.length c0_2,.slice A0_3 l0_3.length c0_3,.int .i64 a0_4] 28 (0,0)) (by (with_reducible repeat (first|refine bN_ ?_ _|refine bD_ ?_|refine bA_ ?_ _));exact BK238.out) hb);have n1_:=A0_.mk (below_step (by repeat (first|(with_reducible first|exact HB.out|apply eA_|apply eN_|apply eD_|refine eS_ ?_ GE238.out)|exact HB.out)) hb);clear BK238;clear HB;have BK238:=n0_;have HB:=n1_;clear n0_ n1_;(try clear hb);(try clear hb2);(try clear hk);(try clear hi);have hcz62_0 : w61.cell? ⟨gb238,0,none⟩ = some (.int .i64 a0_0):=(bC_ BK238.out 0).trans rfl;have hcz62_1 : w61.cell? ⟨gb238,1,none⟩ = some (.slice A0_1 l0_1.length c0_1):=(bC_ BK238.out 1).trans rfl;have hcz62_2 : w61.cell? ⟨gb238,2,none⟩ = some (.slice A0_2 l0_2.length c0_2):=(bC_ BK238.out 2).trans rfl;have hcz62_3 : w61.cell? ⟨gb238,3,none⟩ = some (.slice A0_3 l0_3.length c0_3):=(bC_ BK238.out 3).trans rfl;have hcz62_4 : w61.cell? ⟨gb238,4,none⟩ = some (.int .i64 a0_4):=(bC_ BK238.out 4).trans rfl;have hfz62_0:=bF_ BK238.out 0;have hfz62_1:=bF_ BK238.out 1;have hfz62_2:=bF_ BK238.out 2;have hfz62_3:=bF_ BK238.out 3;have hfz62_4:=bF_ BK238.out 4)|((with_reducible refine gate_dst (N:=8) rfl ?_);refine box_event ?hg (N:=8) ?hd (cs:=#[.slice none 0 0,.slice none 0 0,.int .i64 0]) (t:=26) ?hr ?_;(case hd => rfl);(case hg => rfl);(case hr => first|(go_simp;done)|(go_simp;rfl));intro gb241 hg w63 hbox hb;have n0_:=A0_.mk (blk_below (g:=gb238) (o:=.cells #[.int .i64 a0_0,.slice A0_1 l0_1.length c0_1,.slice A0_2 l0_2.length c0_2,.slice A0_3 l0_3.length c0_3,.int .i64 a0_4] 28 (0,0)) (by (with_reducible repeat (first|refine bN_ ?_ _|refine bD_ ?_|refine bA_ ?_ _));exact BK238.out) hb);have n1_:=A0_.mk (below_step (by repeat (first|(with_reducible first|exact HB.out|apply eA_|apply eN_|apply eD_|refine eS_ ?_ GE238.out)|exact HB.out)) hb);have n2_:=A0_.mk (hbox);have n3_:=A0_.mk ((by rw [hg];exact (below_size (by repeat (first|(with_reducible first|exact HB.out|apply eA_|apply eN_|apply eD_|refine eS_ ?_ GE238.out)|exact HB.out))) : w.heap.size ≤ gb241));have n4_:=A0_.mk ((by rw [hg];exact (below_size (by repeat (first|(with_reducible first|exact HB.out|apply eA_|apply eN_|apply eD_|refine eS_ ?_ GE238.out)|exact HB.out))) : w.heap.size ≤ gb241));have n5_:=A0_.mk ((by rw [hg];exact Nat.ne_of_lt (blk_lt (g:=gb238) (o:=.cells #[.int .i64 a0_0,.slice A0_1 l0_1.length c0_1,.slice A0_2 l0_2.length c0_2,.slice A0_3 l0_3.length c0_3,.int .i64 a0_4] 28 (0,0)) (by (with_reducible repeat (first|refine bN_ ?_ _|refine bD_ ?_|refine bA_ ?_ _));exact BK238.out)) : gb238 ≠ gb241));have n6_:=A0_.mk ((by rw [hg];exact Nat.ne_of_gt (blk_lt (g:=gb238) (o:=.cells #[.int .i64 a0_0,.slice A0_1 l0_1.length c0_1,.slice A0_2 l0_2.length c0_2,.slice A0_3 l0_3.length c0_3,.int .i64 a0_4] 28 (0,0)) (by (with_reducible repeat (first|refine bN_ ?_ _|refine bD_ ?_|refine bA_ ?_ _));exact BK238.out)) : gb241 ≠ gb238));clear BK238;clear HB;have BK238:=n0_;have HB:=n1_;have BK241:=n2_;have GW241:=n3_;have GE241:=n4_;have NB238_241:=n5_;have NB241_238:=n6_;clear n0_ n1_ n2_ n3_ n4_ n5_ n6_;clear hb hbox hg;have hnb64:=NB241_238.out;have hnc64:=NB238_241.out;have hcz65_0 : w63.cell? ⟨gb241,0,none⟩ = some (.slice none 0 0):=(bC_ BK241.out 0).trans rfl;have hcz65_1 : w63.cell? ⟨gb241,1,none⟩ = some (.slice none 0 0):=(bC_ BK241.out 1).trans rfl;have hcz65_2 : w63.cell? ⟨gb241,2,none⟩ = some (.int .i64 0):=(bC_ BK241.out 2).trans rfl;have hfz65_0:=bF_ BK241.out 0;have hfz65_1:=bF_ BK241.out 1;have hfz65_2:=bF_ BK241.out 2;have hcz66_0 : w63.cell? ⟨gb238,0,none⟩ = some (.int .i64 a0_0):=(bC_ BK238.out 0).trans rfl;have hcz66_1 : w63.cell? ⟨gb238,1,none⟩ = some (.slice A0_1 l0_1.length c0_1):=(bC_ BK238.out 1).trans rfl;have hcz66_2 : w63.cell? ⟨gb238,2,none⟩ = some (.slice A0_2 l0_2.length c0_2):=(bC_ BK238.out 2).trans rfl;have hcz66_3 : w63.cell? ⟨gb238,3,none⟩ = some (.slice A0_3 l0_3.length c0_3):=(bC_ BK238.out 3).trans rfl;have hcz66_4 : w63.cell? ⟨gb238,4,none⟩ = some (.int .i64 a0_4):=(bC_ BK238.out 4).trans rfl;have hfz66_0:=bF_ BK238.out 0;have hfz66_1:=bF_ BK238.out 1;have hfz66_2:=bF_ BK238.out 2;have hfz66_3:=bF_ BK238.out 3;have hfz66_4:=bF_ BK238.out 4))
         go_ret
         exact ⟨by first|rfl|(simp [errW_none,errW_some] <;> rfl)|(simp [*,errW_none,errW_some] <;> rfl),by repeat (first|(with_reducible first|exact HB.out|apply eA_|apply eN_|apply eD_|refine eS_ ?_ GE238.out|refine eS_ ?_ GE241.out)|exact HB.out)⟩
     ·rw [if_neg c13] at H
      have c13b0 : (t240 == 0) = false:=beq_eq_false_iff_ne.mpr c13
      have c13b1 : (t240 != 0) = true:=bne_iff_ne.mpr c13
      obtain rfl:=Option.some.inj H
      have hcz67_0 : wc.cell? ⟨gb238,0,none⟩ = some (.int .i64 a0_0):=(bC_ BK238.out 0).trans rfl
      have hcz67_1 : wc.cell? ⟨gb238,1,none⟩ = some (.slice A0_1 l0_1.length c0_1):=(bC_ BK238.out 1).trans rfl
      have hcz67_2 : wc.cell? ⟨gb238,2,none⟩ = some (.slice A0_2 l0_2.length c0_2):=(bC_ BK238.out 2).trans rfl
      have hcz67_3 : wc.cell? ⟨gb238,3,none⟩ = some (.slice A0_3 l0_3.length c0_3):=(bC_ BK238.out 3).trans rfl
      have hcz67_4 : wc.cell? ⟨gb238,4,none⟩ = some (.int .i64 a0_4):=(bC_ BK238.out 4).trans rfl
      have hfz67_0:=bF_ BK238.out 0
      have hfz67_1:=bF_ BK238.out 1
      have hfz67_2:=bF_ BK238.out 2
      have hfz67_3:=bF_ BK238.out 3
      have hfz67_4:=bF_ BK238.out 4
      go_wp2_with (first|((with_reducible refine gate_callee (f:=41) rfl ?_);refine goesL_ (some 26) rfl rfl Tryd.func41 (by kernel_rfl) rfl #[.slice A0_1 l0_1.length c0_1] rfl (by (try simp only [List.map_toArray,List.map_cons,List.map_nil]);first|done|rfl|(simp only [List.length_drop,List.length_take];rfl)) ?_;(with_reducible refine (stim_props.calls _ _ l0_1 t240 _ ?side1 ?side2 A12.out).mono ?_);(case side1 => repeat (first|exact (Kd.C_below HR0_1.out HB.out)|(with_reducible refine Kd.C_alloc ?_ _)|(with_reducible refine Kd.C_drewN ?_ _)|(with_reducible refine Kd.C_drew ?_)));(case side2 => exact HC0_1.out);rintro e w68 ⟨rfl,hb⟩;refine ⟨_,rfl,?_⟩;have n0_:=A0_.mk (blk_below (g:=gb238) (o:=.cells #[.int .i64 a0_0,.slice A0_1 l0_1.length c0_1,.slice A0_2 l0_2.length c0_2,.slice A0_3 l0_3.length c0_3,.int .i64 a0_4] 28 (0,0)) (by (with_reducible repeat (first|refine bN_ ?_ _|refine bD_ ?_|refine bA_ ?_ _));exact BK238.out) hb);have n1_:=A0_.mk (below_step (by repeat (first|(with_reducible first|exact HB.out|apply eA_|apply eN_|apply eD_|refine eS_ ?_ GE238.out)|exact HB.out)) hb);clear BK238;clear HB;have BK238:=n0_;have HB:=n1_;clear n0_ n1_;(try clear hb);(try clear hb2);(try clear hk);(try clear hi)))
      go_ret
      exact ⟨by first|rfl|(simp [errW_none,errW_some] <;> rfl)|(simp [*,errW_none,errW_some] <;> rfl),by repeat (first|(with_reducible first|exact HB.out|apply eA_|apply eN_|apply eD_|refine eS_ ?_ GE238.out)|exact HB.out)⟩
 ·replace c5:=Bool.eq_false_iff.mpr c5
  subst c5
  have H1 : (some 1) = some r:=by rw [if_neg (show ¬ (false = true) by decide)] at H;exact H
  clear H
  have H:=H1
  clear H1
  obtain rfl:=Option.some.inj H
  go_enter Tryd.func15,Tryd.ntmps15
  go_wp2_with (first|((with_reducible refine gate_dst (N:=3) rfl ?_);refine box_event ?hg (N:=3) ?hd (cs:=#[.int .i64 a0_0,.slice A0_1 l0_1.length c0_1,.slice A0_2 l0_2.length c0_2,.slice A0_3 l0_3.length c0_3,.int .i64 a0_4]) (t:=28) ?hr ?_;(case hd => rfl);(case hg => rfl);(case hr => first|(go_simp;done)|(go_simp;rfl));intro gb238 hg w69 hbox hb;have n0_:=A0_.mk (below_step (by repeat (first|(with_reducible first|exact HB.out|apply eA_|apply eN_|apply eD_)|exact HB.out)) hb);have n1_:=A0_.mk (hbox);have n2_:=A0_.mk ((by rw [hg];exact (below_size (by repeat (first|(with_reducible first|exact HB.out|apply eA_|apply eN_|apply eD_)|exact HB.out))) : w.heap.size ≤ gb238));have n3_:=A0_.mk ((by rw [hg];exact (below_size (by repeat (first|(with_reducible first|exact HB.out|apply eA_|apply eN_|apply eD_)|exact HB.out))) : w.heap.size ≤ gb238));clear HB;have HB:=n0_;have BK238:=n1_;have GW238:=n2_;have GE238:=n3_;clear n0_ n1_ n2_ n3_;clear hb hbox hg)|((with_reducible refine gate_callee (f:=40) rfl ?_);refine goesL_ (some 14) rfl rfl Tryd.func40 (by kernel_rfl) rfl #[.int .i64 a1,.int .i64 a2] rfl (by (try simp only [List.map_toArray,List.map_cons,List.map_nil]);first|done|rfl|(simp only [List.length_drop,List.length_take];rfl)) ?_;(with_reducible refine (stim_sized.calls a1 a2 false _ A4.out).mono ?_);rintro e w' ⟨rfl,⟨nd,rfl⟩⟩;refine ⟨_,rfl,?_⟩))
  go_ret
  exact ⟨by first|rfl|(simp [errW_none,errW_some] <;> rfl)|(simp [*,errW_none,errW_some] <;> rfl),by repeat (first|(with_reducible first|exact HB.out|apply eA_|apply eN_|apply eD_|refine eS_ ?_ GE238.out)|exact HB.out)⟩
end Go.Proofs.YtojepjkpnponoaaDoor.Stim

