import Derived.Test.YtojepjkpnponoaaDoorKStim0
import Derived.Test.YtojepjkpnponoaaDoorKStim6
import Derived.Test.YtojepjkpnponoaaDoorKStim7
import Derived.Test.YtojepjkpnponoaaDoorKGV
namespace Go.Proofs.YtojepjkpnponoaaDoor.Stim
open Go.RowKit Go.Proofs.YtojepjkpnponoaaDoorW.PrintWords Go.Proofs.YtojepjkpnponoaaDoorW.PrintLast Go.Proofs.YtojepjkpnponoaaDoorW.PrintMore
attribute [local go_sem] max2_int min2_int max_two min_two max_three min_three max_four min_four
set_option linter.unusedVariables false
set_option linter.unusedSimpArgs false
def trestleref12_Check.j0 : Nat → Int → Int → Bool → Int → List (S83) → List Bool → List (List Bool) → Int → Option (Int)
 |0,_,_,_,_,_,_,_,_ => none
 |k + 1,x1,x2,x20,x249000,x249001,x249002,x249003,x249004 => if x20 = true then (some 120) else ((r12_props.f k x249001).bind fun t250 => (if t250 = 0 then (if (x249002.length : Int) = 0 then (if (x249003.length : Int) = 0 then (if x249000 = 1 then ((r12_trace.f k x249002 x249003 x249004 x1 x2).bind fun t251 => (if t251 = true then (some 0) else (some 4))) else (if x249004 = 0 then (some 0) else (some 4))) else (if x249000 = 1 then ((r12_trace.f k x249002 x249003 x249004 x1 x2).bind fun t252 => (if t252 = true then (some 0) else (some 4))) else (some 4))) else (if x249000 = 1 then ((r12_trace.f k x249002 x249003 x249004 x1 x2).bind fun t253 => (if t253 = true then (some 0) else (some 4))) else (some 4))) else (some t250)))
def trestleref12_Check.f (k : Nat) (a0_0 : Int) (l0_1 : List (S83)) (l0_2 : List Bool) (l0_3 : List (List Bool)) (a0_4 : Int) (a1 : Int) (a2 : Int) : Option (Int):=(trestleref12_sizes.f a1 a2).bind fun t249 => (if t249 = true then (if a0_0 < 0 then (trestleref12_Check.j0 k a1 a2 true a0_0 l0_1 l0_2 l0_3 a0_4) else (trestleref12_Check.j0 k a1 a2 (decide (a0_0 > 2)) a0_0 l0_1 l0_2 l0_3 a0_4)) else (some 1))
theorem trestleref12_Check.mono_l : ∀ k,(∀ y0 y1 y2 y3 y4 y5 y6 y7,LeO (trestleref12_Check.j0 k y0 y1 y2 y3 y4 y5 y6 y7) (trestleref12_Check.j0 (k + 1) y0 y1 y2 y3 y4 y5 y6 y7))
 |0 => fun _ _ _ _ _ _ _ _ r h => by simp [trestleref12_Check.j0] at h
 |k + 1 => by
  have ih0:=trestleref12_Check.mono_l k
  ·intro y0 y1 y2 y3 y4 y5 y6 y7
   unfold trestleref12_Check.j0
   repeat' first
   |(with_reducible exact ih0 _ _ _ _ _ _ _ _)
   |(with_reducible exact r12_props.mono _ _)
   |(with_reducible exact r12_trace.mono _ _ _ _ _ _)
   |(with_reducible exact LeO.refl _)
   |(with_reducible exact LeO.none _)
   |(with_reducible refine LeO.ite ?_ ?_)
   |(with_reducible refine LeO.bind ?_ (fun _ => ?_))
   |exact ih0 _ _ _ _ _ _ _ _
   |exact r12_props.mono _ _
   |exact r12_trace.mono _ _ _ _ _ _
   |exact LeO.none _
   |refine LeO.ite ?_ ?_
   |refine LeO.bind ?_ (fun _ => ?_)
theorem trestleref12_Check.mono : ∀ a0 a1 a2 a3 a4 a5 a6 k,LeO (trestleref12_Check.f k a0 a1 a2 a3 a4 a5 a6) (trestleref12_Check.f (k + 1) a0 a1 a2 a3 a4 a5 a6):=by
 intro a0 a1 a2 a3 a4 a5 a6 k
 have ih0:=trestleref12_Check.mono_l k
 unfold trestleref12_Check.f
 repeat' first
   |(with_reducible exact ih0 _ _ _ _ _ _ _ _)
   |(with_reducible exact r12_props.mono _ _)
   |(with_reducible exact r12_trace.mono _ _ _ _ _ _)
   |(with_reducible exact LeO.refl _)
   |(with_reducible exact LeO.none _)
   |(with_reducible refine LeO.ite ?_ ?_)
   |(with_reducible refine LeO.bind ?_ (fun _ => ?_))
   |exact ih0 _ _ _ _ _ _ _ _
   |exact r12_props.mono _ _
   |exact r12_trace.mono _ _ _ _ _ _
   |exact LeO.none _
   |refine LeO.ite ?_ ?_
   |refine LeO.bind ?_ (fun _ => ?_)
set_option maxHeartbeats 8000000 in
set_option maxRecDepth 100000 in
theorem trestleref12_Check.calls (k : Nat) (a0_0 : Int) (A0_1 : Option Addr) (c0_1 : Nat) (l0_1 : List (S83)) (A0_2 : Option Addr) (c0_2 : Nat) (l0_2 : List Bool) (A0_3 : Option Addr) (c0_3 : Nat) (l0_3 : List (List Bool)) (a0_4 : Int) (a1 : Int) (a2 : Int) (r : Int) (w : World) (hr0_1 : Kd.C k83 w A0_1 l0_1.length l0_1) (hc0_1 : l0_1.length ≤ c0_1) (hr0_2 : Kd.C Kd.bool w A0_2 l0_2.length l0_2) (hc0_2 : l0_2.length ≤ c0_2) (hr0_3 : Kd.C (Kd.slice 4 Kd.bool) w A0_3 l0_3.length l0_3) (hc0_3 : l0_3.length ≤ c0_3) (h : trestleref12_Check.f k a0_0 l0_1 l0_2 l0_3 a0_4 a1 a2 = some r) :
  Calls Tryd.prog 16 #[.agg #[.int .i64 a0_0,.slice A0_1 l0_1.length c0_1,.slice A0_2 l0_2.length c0_2,.slice A0_3 l0_3.length c0_3,.int .i64 a0_4],.int .i64 a1,.int .i64 a2] w fun e w' => e = .returned (.int .i64 r) ∧ Below w.heap.size w w':=by
 have hu28:=Tryd.underlying28
 have hu26:=Tryd.underlying26
 have HR0_1:=A0_.mk hr0_1
 have HC0_1:=A0_.mk hc0_1
 clear hr0_1 hc0_1
 have HR0_2:=A0_.mk hr0_2
 have HC0_2:=A0_.mk hc0_2
 clear hr0_2 hc0_2
 have HR0_3:=A0_.mk hr0_3
 have HC0_3:=A0_.mk hc0_3
 clear hr0_3 hc0_3
 have HB:=A0_.mk (Below.refl w.heap.size w)
 have H : ((trestleref12_sizes.f a1 a2).bind fun t249 => (if t249 = true then (if a0_0 < 0 then (trestleref12_Check.j0 k a1 a2 true a0_0 l0_1 l0_2 l0_3 a0_4) else (trestleref12_Check.j0 k a1 a2 (decide (a0_0 > 2)) a0_0 l0_1 l0_2 l0_3 a0_4)) else (some 1))) = some r:=h
 clear h
 replace H:=Option.bind_eq_some_iff.mp H
 obtain ⟨t249,A40,H⟩:=H
 replace H : (if t249 = true then (if a0_0 < 0 then (trestleref12_Check.j0 k a1 a2 true a0_0 l0_1 l0_2 l0_3 a0_4) else (trestleref12_Check.j0 k a1 a2 (decide (a0_0 > 2)) a0_0 l0_1 l0_2 l0_3 a0_4)) else (some 1)) = some r:=H
 have A4:=A0_.mk A40
 clear A40
 by_cases c5 : t249 = true
 ·subst c5
  have H1 : (if a0_0 < 0 then (trestleref12_Check.j0 k a1 a2 true a0_0 l0_1 l0_2 l0_3 a0_4) else (trestleref12_Check.j0 k a1 a2 (decide (a0_0 > 2)) a0_0 l0_1 l0_2 l0_3 a0_4)) = some r:=by rw [if_pos rfl] at H;exact H
  clear H
  have H:=H1
  clear H1
  have HC6:=A0_.mk H
  clear H
  go_enter Tryd.func16,Tryd.ntmps16
  go_upto_region 3 with (first|((with_reducible refine gate_dst (N:=3) rfl ?_);(try (refine gate_guard (by rfl) ?_;dsimp only));refine box_event ?hg (N:=3) ?hd (cs:=#[.int .i64 a0_0,.slice A0_1 l0_1.length c0_1,.slice A0_2 l0_2.length c0_2,.slice A0_3 l0_3.length c0_3,.int .i64 a0_4]) (t:=28) ?hr ?_;(case hd => rfl);(case hg => rfl);(case hr => first|(go_simp;done)|(go_simp;rfl));intro gb248 hg w7 hbox hb;have n0_:=A0_.mk (below_step (by repeat (first|(with_reducible first|exact HB.out|apply eA_|apply eN_|apply eD_)|exact HB.out)) hb);have n1_:=A0_.mk (hbox);have n2_:=A0_.mk ((by rw [hg];exact (below_size (by repeat (first|(with_reducible first|exact HB.out|apply eA_|apply eN_|apply eD_)|exact HB.out))) : w.heap.size ≤ gb248));have n3_:=A0_.mk ((by rw [hg];exact (below_size (by repeat (first|(with_reducible first|exact HB.out|apply eA_|apply eN_|apply eD_)|exact HB.out))) : w.heap.size ≤ gb248));clear HB;have HB:=n0_;have BK248:=n1_;have GW248:=n2_;have GE248:=n3_;clear n0_ n1_ n2_ n3_;clear hb hbox hg)|((with_reducible refine gate_callee (f:=42) rfl ?_);refine goesL_ (some 11) rfl rfl Tryd.func42 (by kernel_rfl) rfl #[.int .i64 a1,.int .i64 a2] rfl (by (try simp only [List.map_toArray,List.map_cons,List.map_nil]);first|done|rfl|(simp only [List.length_drop,List.length_take];rfl)) ?_;(with_reducible refine (trestleref12_sizes.calls a1 a2 true _ A4.out).mono ?_);rintro e w' ⟨rfl,⟨nd,rfl⟩⟩;refine ⟨_,rfl,?_⟩))
  (try simp only [Act.put,List.setIfInBounds_toArray,List.set_cons_zero,List.set_cons_succ])
  go_cut [20] (fun v20 wc => ∃ (kq : Nat) (x20_5 : Bool),v20 = .bool x20_5 ∧ A0_ (trestleref12_Check.j0 kq a1 a2 x20_5 a0_0 l0_1 l0_2 l0_3 a0_4 = some r) ∧ A0_ (kq ≤ k) ∧ A0_ (wc.heap[gb248]? = some (.cells #[.int .i64 a0_0,(.slice A0_1 l0_1.length c0_1),(.slice A0_2 l0_2.length c0_2),(.slice A0_3 l0_3.length c0_3),.int .i64 a0_4] 28 (0,0))) ∧ A0_ (Below w.heap.size w wc))
  case first =>
   have H:=HC6.out
   clear HC6
   by_cases c8 : a0_0 < 0
   ·rw [if_pos c8] at H
    have c8b0 : decide (a0_0 < 0) = true:=decide_eq_true c8
    clear c8
    (first|rw [c8b0]|(simp only [i64_w,i32_w];rw [c8b0])|skip)
    have H':=A0_.mk H
    clear H
    have hcz9_0 : w7.cell? ⟨gb248,0,none⟩ = some (.int .i64 a0_0):=(bC_ BK248.out 0).trans rfl
    have hcz9_1 : w7.cell? ⟨gb248,1,none⟩ = some (.slice A0_1 l0_1.length c0_1):=(bC_ BK248.out 1).trans rfl
    have hcz9_2 : w7.cell? ⟨gb248,2,none⟩ = some (.slice A0_2 l0_2.length c0_2):=(bC_ BK248.out 2).trans rfl
    have hcz9_3 : w7.cell? ⟨gb248,3,none⟩ = some (.slice A0_3 l0_3.length c0_3):=(bC_ BK248.out 3).trans rfl
    have hcz9_4 : w7.cell? ⟨gb248,4,none⟩ = some (.int .i64 a0_4):=(bC_ BK248.out 4).trans rfl
    have hfz9_0:=bF_ BK248.out 0
    have hfz9_1:=bF_ BK248.out 1
    have hfz9_2:=bF_ BK248.out 2
    have hfz9_3:=bF_ BK248.out 3
    have hfz9_4:=bF_ BK248.out 4
    go_wp2
    go_meet
    case rel => exact ⟨_,(true),(by first|rfl|(simp;done)|(simp [*];done)),H',⟨by first|omega|exact Nat.le_refl _⟩,⟨by (with_reducible repeat (first|refine bN_ ?_ _|refine bD_ ?_|refine bA_ ?_ _));exact BK248.out⟩,⟨by repeat (first|(with_reducible first|exact HB.out|apply eA_|apply eN_|apply eD_|refine eS_ ?_ GE248.out)|exact HB.out)⟩⟩
   ·rw [if_neg c8] at H
    have c8b0 : decide (a0_0 < 0) = false:=decide_eq_false c8
    clear c8
    (first|rw [c8b0]|(simp only [i64_w,i32_w];rw [c8b0])|skip)
    have H':=A0_.mk H
    clear H
    have hcz10_0 : w7.cell? ⟨gb248,0,none⟩ = some (.int .i64 a0_0):=(bC_ BK248.out 0).trans rfl
    have hcz10_1 : w7.cell? ⟨gb248,1,none⟩ = some (.slice A0_1 l0_1.length c0_1):=(bC_ BK248.out 1).trans rfl
    have hcz10_2 : w7.cell? ⟨gb248,2,none⟩ = some (.slice A0_2 l0_2.length c0_2):=(bC_ BK248.out 2).trans rfl
    have hcz10_3 : w7.cell? ⟨gb248,3,none⟩ = some (.slice A0_3 l0_3.length c0_3):=(bC_ BK248.out 3).trans rfl
    have hcz10_4 : w7.cell? ⟨gb248,4,none⟩ = some (.int .i64 a0_4):=(bC_ BK248.out 4).trans rfl
    have hfz10_0:=bF_ BK248.out 0
    have hfz10_1:=bF_ BK248.out 1
    have hfz10_2:=bF_ BK248.out 2
    have hfz10_3:=bF_ BK248.out 3
    have hfz10_4:=bF_ BK248.out 4
    go_wp2
    go_meet
    case rel => exact ⟨_,(decide (a0_0 > 2)),(by first|rfl|(simp;done)|(simp [*];done)),H',⟨by first|omega|exact Nat.le_refl _⟩,⟨by (with_reducible repeat (first|refine bN_ ?_ _|refine bD_ ?_|refine bA_ ?_ _));exact BK248.out⟩,⟨by repeat (first|(with_reducible first|exact HB.out|apply eA_|apply eN_|apply eD_|refine eS_ ?_ GE248.out)|exact HB.out)⟩⟩
  case rest =>
   clear HC6
   try clear c1
   try clear p2
   try clear c4
   try clear c5
   try clear c8
   try clear c8b0
   try clear hcz10_0
   try clear hcz10_1
   try clear hcz10_2
   try clear hcz10_3
   try clear hcz10_4
   try clear hcz9_0
   try clear hcz9_1
   try clear hcz9_2
   try clear hcz9_3
   try clear hcz9_4
   try clear hfz10_0
   try clear hfz10_1
   try clear hfz10_2
   try clear hfz10_3
   try clear hfz10_4
   try clear hfz9_0
   try clear hfz9_1
   try clear hfz9_2
   try clear hfz9_3
   try clear hfz9_4
   obtain ⟨kq,x20_5,rfl,HA,HJ5,BK248,HB⟩:=hcut
   cases kq with
   |zero => exact absurd HA.out (by simp [trestleref12_Check.j0])
   |succ kj5 =>
    have H:=HA.out
    clear HA
    simp only [trestleref12_Check.j0] at H
    by_cases c11 : x20_5 = true
    ·subst c11
     have H1 : (some 120) = some r:=by rw [if_pos rfl] at H;exact H
     clear H
     have H:=H1
     clear H1
     obtain rfl:=Option.some.inj H
     go_wp2
     go_ret
     exact ⟨by first|rfl|(simp [errW_none,errW_some] <;> rfl)|(simp [*,errW_none,errW_some] <;> rfl),by repeat (first|(with_reducible first|exact HB.out|apply eA_|apply eN_|apply eD_|refine eS_ ?_ GE248.out)|exact HB.out)⟩
    ·replace c11:=Bool.eq_false_iff.mpr c11
     subst c11
     have H1 : ((r12_props.f kj5 l0_1).bind fun t250 => (if t250 = 0 then (if (l0_2.length : Int) = 0 then (if (l0_3.length : Int) = 0 then (if a0_0 = 1 then ((r12_trace.f kj5 l0_2 l0_3 a0_4 a1 a2).bind fun t251 => (if t251 = true then (some 0) else (some 4))) else (if a0_4 = 0 then (some 0) else (some 4))) else (if a0_0 = 1 then ((r12_trace.f kj5 l0_2 l0_3 a0_4 a1 a2).bind fun t252 => (if t252 = true then (some 0) else (some 4))) else (some 4))) else (if a0_0 = 1 then ((r12_trace.f kj5 l0_2 l0_3 a0_4 a1 a2).bind fun t253 => (if t253 = true then (some 0) else (some 4))) else (some 4))) else (some t250))) = some r:=by rw [if_neg (show ¬ (false = true) by decide)] at H;exact H
     clear H
     have H:=H1
     clear H1
     replace H:=Option.bind_eq_some_iff.mp H
     obtain ⟨t250,A120,H⟩:=H
     replace H : (if t250 = 0 then (if (l0_2.length : Int) = 0 then (if (l0_3.length : Int) = 0 then (if a0_0 = 1 then ((r12_trace.f kj5 l0_2 l0_3 a0_4 a1 a2).bind fun t251 => (if t251 = true then (some 0) else (some 4))) else (if a0_4 = 0 then (some 0) else (some 4))) else (if a0_0 = 1 then ((r12_trace.f kj5 l0_2 l0_3 a0_4 a1 a2).bind fun t252 => (if t252 = true then (some 0) else (some 4))) else (some 4))) else (if a0_0 = 1 then ((r12_trace.f kj5 l0_2 l0_3 a0_4 a1 a2).bind fun t253 => (if t253 = true then (some 0) else (some 4))) else (some 4))) else (some t250)) = some r:=H
     have A12:=A0_.mk A120
     clear A120
     by_cases c13 : t250 = 0
     ·rw [if_pos c13] at H
      have c13b0 : (t250 == 0) = true:=beq_iff_eq.mpr c13
      have c13b1 : (t250 != 0) = false:=bne_eq_false_iff_eq.mpr c13
      clear c13
      by_cases c14 : (l0_2.length : Int) = 0
      ·rw [if_pos c14] at H
       have c14b0 : ((l0_2.length : Int) == 0) = true:=beq_iff_eq.mpr c14
       have c14b1 : ((l0_2.length : Int) != 0) = false:=bne_eq_false_iff_eq.mpr c14
       clear c14
       by_cases c15 : (l0_3.length : Int) = 0
       ·rw [if_pos c15] at H
        have c15b0 : ((l0_3.length : Int) == 0) = true:=beq_iff_eq.mpr c15
        have c15b1 : ((l0_3.length : Int) != 0) = false:=bne_eq_false_iff_eq.mpr c15
        clear c15
        by_cases c16 : a0_0 = 1
        ·rw [if_pos c16] at H
         have c16b0 : (a0_0 == 1) = true:=beq_iff_eq.mpr c16
         have c16b1 : (a0_0 != 1) = false:=bne_eq_false_iff_eq.mpr c16
         clear c16
         replace H:=Option.bind_eq_some_iff.mp H
         obtain ⟨t251,A170,H⟩:=H
         replace H : (if t251 = true then (some 0) else (some 4)) = some r:=H
         have A17:=A0_.mk A170
         clear A170
         by_cases c18 : t251 = true
         ·subst c18
          have H1 : (some 0) = some r:=by rw [if_pos rfl] at H;exact H
          clear H
          have H:=H1
          clear H1
          obtain rfl:=Option.some.inj H
          have hcz19_0 : wc.cell? ⟨gb248,0,none⟩ = some (.int .i64 a0_0):=(bC_ BK248.out 0).trans rfl
          have hcz19_1 : wc.cell? ⟨gb248,1,none⟩ = some (.slice A0_1 l0_1.length c0_1):=(bC_ BK248.out 1).trans rfl
          have hcz19_2 : wc.cell? ⟨gb248,2,none⟩ = some (.slice A0_2 l0_2.length c0_2):=(bC_ BK248.out 2).trans rfl
          have hcz19_3 : wc.cell? ⟨gb248,3,none⟩ = some (.slice A0_3 l0_3.length c0_3):=(bC_ BK248.out 3).trans rfl
          have hcz19_4 : wc.cell? ⟨gb248,4,none⟩ = some (.int .i64 a0_4):=(bC_ BK248.out 4).trans rfl
          have hfz19_0:=bF_ BK248.out 0
          have hfz19_1:=bF_ BK248.out 1
          have hfz19_2:=bF_ BK248.out 2
          have hfz19_3:=bF_ BK248.out 3
          have hfz19_4:=bF_ BK248.out 4
          go_wp2_with (first|((with_reducible refine gate_callee (f:=43) rfl ?_);refine goesL_ (some 23) rfl rfl Tryd.func43 (by kernel_rfl) rfl #[.slice A0_1 l0_1.length c0_1] rfl (by (try simp only [List.map_toArray,List.map_cons,List.map_nil]);first|done|rfl|(simp only [List.length_drop,List.length_take];rfl)) ?_;(with_reducible refine (r12_props.calls kj5 _ _ l0_1 t250 _ ?side1 ?side2 A12.out).mono ?_);(case side1 => repeat (first|exact (Kd.C_below HR0_1.out HB.out)|(with_reducible refine Kd.C_alloc ?_ _)|(with_reducible refine Kd.C_drewN ?_ _)|(with_reducible refine Kd.C_drew ?_)));(case side2 => exact HC0_1.out);rintro e w20 ⟨rfl,hb⟩;refine ⟨_,rfl,?_⟩;have n0_:=A0_.mk (blk_below (g:=gb248) (o:=.cells #[.int .i64 a0_0,.slice A0_1 l0_1.length c0_1,.slice A0_2 l0_2.length c0_2,.slice A0_3 l0_3.length c0_3,.int .i64 a0_4] 28 (0,0)) (by (with_reducible repeat (first|refine bN_ ?_ _|refine bD_ ?_|refine bA_ ?_ _));exact BK248.out) hb);have n1_:=A0_.mk (below_step (by repeat (first|(with_reducible first|exact HB.out|apply eA_|apply eN_|apply eD_|refine eS_ ?_ GE248.out)|exact HB.out)) hb);clear BK248;clear HB;have BK248:=n0_;have HB:=n1_;clear n0_ n1_;(try clear hb);(try clear hb2);(try clear hk);(try clear hi);have hcz21_0 : w20.cell? ⟨gb248,0,none⟩ = some (.int .i64 a0_0):=(bC_ BK248.out 0).trans rfl;have hcz21_1 : w20.cell? ⟨gb248,1,none⟩ = some (.slice A0_1 l0_1.length c0_1):=(bC_ BK248.out 1).trans rfl;have hcz21_2 : w20.cell? ⟨gb248,2,none⟩ = some (.slice A0_2 l0_2.length c0_2):=(bC_ BK248.out 2).trans rfl;have hcz21_3 : w20.cell? ⟨gb248,3,none⟩ = some (.slice A0_3 l0_3.length c0_3):=(bC_ BK248.out 3).trans rfl;have hcz21_4 : w20.cell? ⟨gb248,4,none⟩ = some (.int .i64 a0_4):=(bC_ BK248.out 4).trans rfl;have hfz21_0:=bF_ BK248.out 0;have hfz21_1:=bF_ BK248.out 1;have hfz21_2:=bF_ BK248.out 2;have hfz21_3:=bF_ BK248.out 3;have hfz21_4:=bF_ BK248.out 4)|(go_at_call 44;(with_reducible refine (r12_trace.calls kj5 _ _ l0_2 _ _ l0_3 a0_4 a1 a2 true _ ?side1 ?side2 ?side3 ?side4 A17.out).mono ?_);(case side1 => repeat (first|exact (Kd.C_below HR0_2.out HB.out)|(with_reducible refine Kd.C_alloc ?_ _)|(with_reducible refine Kd.C_drewN ?_ _)|(with_reducible refine Kd.C_drew ?_)));(case side2 => exact HC0_2.out);(case side3 => repeat (first|exact (Kd.C_below HR0_3.out HB.out)|(with_reducible refine Kd.C_alloc ?_ _)|(with_reducible refine Kd.C_drewN ?_ _)|(with_reducible refine Kd.C_drew ?_)));(case side4 => exact HC0_3.out);rintro e w22 ⟨rfl,hb⟩;have n0_:=A0_.mk (blk_below (g:=gb248) (o:=.cells #[.int .i64 a0_0,.slice A0_1 l0_1.length c0_1,.slice A0_2 l0_2.length c0_2,.slice A0_3 l0_3.length c0_3,.int .i64 a0_4] 28 (0,0)) (by (with_reducible repeat (first|refine bN_ ?_ _|refine bD_ ?_|refine bA_ ?_ _));exact BK248.out) hb);have n1_:=A0_.mk (below_step (by repeat (first|(with_reducible first|exact HB.out|apply eA_|apply eN_|apply eD_|refine eS_ ?_ GE248.out)|exact HB.out)) hb);clear BK248;clear HB;have BK248:=n0_;have HB:=n1_;clear n0_ n1_;(try clear hb);(try clear hb2);(try clear hk);(try clear hi);have hcz23_0 : w22.cell? ⟨gb248,0,none⟩ = some (.int .i64 a0_0):=(bC_ BK248.out 0).trans rfl;have hcz23_1 : w22.cell? ⟨gb248,1,none⟩ = some (.slice A0_1 l0_1.length c0_1):=(bC_ BK248.out 1).trans rfl;have hcz23_2 : w22.cell? ⟨gb248,2,none⟩ = some (.slice A0_2 l0_2.length c0_2):=(bC_ BK248.out 2).trans rfl;have hcz23_3 : w22.cell? ⟨gb248,3,none⟩ = some (.slice A0_3 l0_3.length c0_3):=(bC_ BK248.out 3).trans rfl;have hcz23_4 : w22.cell? ⟨gb248,4,none⟩ = some (.int .i64 a0_4):=(bC_ BK248.out 4).trans rfl;have hfz23_0:=bF_ BK248.out 0;have hfz23_1:=bF_ BK248.out 1;have hfz23_2:=bF_ BK248.out 2;have hfz23_3:=bF_ BK248.out 3;have hfz23_4:=bF_ BK248.out 4))
          go_ret
          exact ⟨by first|rfl|(simp [errW_none,errW_some] <;> rfl)|(simp [*,errW_none,errW_some] <;> rfl),by repeat (first|(with_reducible first|exact HB.out|apply eA_|apply eN_|apply eD_|refine eS_ ?_ GE248.out)|exact HB.out)⟩
         ·replace c18:=Bool.eq_false_iff.mpr c18
          subst c18
          have H1 : (some 4) = some r:=by rw [if_neg (show ¬ (false = true) by decide)] at H;exact H
          clear H
          have H:=H1
          clear H1
          obtain rfl:=Option.some.inj H
          have hcz24_0 : wc.cell? ⟨gb248,0,none⟩ = some (.int .i64 a0_0):=(bC_ BK248.out 0).trans rfl
          have hcz24_1 : wc.cell? ⟨gb248,1,none⟩ = some (.slice A0_1 l0_1.length c0_1):=(bC_ BK248.out 1).trans rfl
          have hcz24_2 : wc.cell? ⟨gb248,2,none⟩ = some (.slice A0_2 l0_2.length c0_2):=(bC_ BK248.out 2).trans rfl
          have hcz24_3 : wc.cell? ⟨gb248,3,none⟩ = some (.slice A0_3 l0_3.length c0_3):=(bC_ BK248.out 3).trans rfl
          have hcz24_4 : wc.cell? ⟨gb248,4,none⟩ = some (.int .i64 a0_4):=(bC_ BK248.out 4).trans rfl
          have hfz24_0:=bF_ BK248.out 0
          have hfz24_1:=bF_ BK248.out 1
          have hfz24_2:=bF_ BK248.out 2
          have hfz24_3:=bF_ BK248.out 3
          have hfz24_4:=bF_ BK248.out 4
          go_wp2_with (first|((with_reducible refine gate_callee (f:=43) rfl ?_);refine goesL_ (some 23) rfl rfl Tryd.func43 (by kernel_rfl) rfl #[.slice A0_1 l0_1.length c0_1] rfl (by (try simp only [List.map_toArray,List.map_cons,List.map_nil]);first|done|rfl|(simp only [List.length_drop,List.length_take];rfl)) ?_;(with_reducible refine (r12_props.calls kj5 _ _ l0_1 t250 _ ?side1 ?side2 A12.out).mono ?_);(case side1 => repeat (first|exact (Kd.C_below HR0_1.out HB.out)|(with_reducible refine Kd.C_alloc ?_ _)|(with_reducible refine Kd.C_drewN ?_ _)|(with_reducible refine Kd.C_drew ?_)));(case side2 => exact HC0_1.out);rintro e w25 ⟨rfl,hb⟩;refine ⟨_,rfl,?_⟩;have n0_:=A0_.mk (blk_below (g:=gb248) (o:=.cells #[.int .i64 a0_0,.slice A0_1 l0_1.length c0_1,.slice A0_2 l0_2.length c0_2,.slice A0_3 l0_3.length c0_3,.int .i64 a0_4] 28 (0,0)) (by (with_reducible repeat (first|refine bN_ ?_ _|refine bD_ ?_|refine bA_ ?_ _));exact BK248.out) hb);have n1_:=A0_.mk (below_step (by repeat (first|(with_reducible first|exact HB.out|apply eA_|apply eN_|apply eD_|refine eS_ ?_ GE248.out)|exact HB.out)) hb);clear BK248;clear HB;have BK248:=n0_;have HB:=n1_;clear n0_ n1_;(try clear hb);(try clear hb2);(try clear hk);(try clear hi);have hcz26_0 : w25.cell? ⟨gb248,0,none⟩ = some (.int .i64 a0_0):=(bC_ BK248.out 0).trans rfl;have hcz26_1 : w25.cell? ⟨gb248,1,none⟩ = some (.slice A0_1 l0_1.length c0_1):=(bC_ BK248.out 1).trans rfl;have hcz26_2 : w25.cell? ⟨gb248,2,none⟩ = some (.slice A0_2 l0_2.length c0_2):=(bC_ BK248.out 2).trans rfl;have hcz26_3 : w25.cell? ⟨gb248,3,none⟩ = some (.slice A0_3 l0_3.length c0_3):=(bC_ BK248.out 3).trans rfl;have hcz26_4 : w25.cell? ⟨gb248,4,none⟩ = some (.int .i64 a0_4):=(bC_ BK248.out 4).trans rfl;have hfz26_0:=bF_ BK248.out 0;have hfz26_1:=bF_ BK248.out 1;have hfz26_2:=bF_ BK248.out 2;have hfz26_3:=bF_ BK248.out 3;have hfz26_4:=bF_ BK248.out 4)|(go_at_call 44;(with_reducible refine (r12_trace.calls kj5 _ _ l0_2 _ _ l0_3 a0_4 a1 a2 false _ ?side1 ?side2 ?side3 ?side4 A17.out).mono ?_);(case side1 => repeat (first|exact (Kd.C_below HR0_2.out HB.out)|(with_reducible refine Kd.C_alloc ?_ _)|(with_reducible refine Kd.C_drewN ?_ _)|(with_reducible refine Kd.C_drew ?_)));(case side2 => exact HC0_2.out);(case side3 => repeat (first|exact (Kd.C_below HR0_3.out HB.out)|(with_reducible refine Kd.C_alloc ?_ _)|(with_reducible refine Kd.C_drewN ?_ _)|(with_reducible refine Kd.C_drew ?_)));(case side4 => exact HC0_3.out);rintro e w27 ⟨rfl,hb⟩;have n0_:=A0_.mk (blk_below (g:=gb248) (o:=.cells #[.int .i64 a0_0,.slice A0_1 l0_1.length c0_1,.slice A0_2 l0_2.length c0_2,.slice A0_3 l0_3.length c0_3,.int .i64 a0_4] 28 (0,0)) (by (with_reducible repeat (first|refine bN_ ?_ _|refine bD_ ?_|refine bA_ ?_ _));exact BK248.out) hb);have n1_:=A0_.mk (below_step (by repeat (first|(with_reducible first|exact HB.out|apply eA_|apply eN_|apply eD_|refine eS_ ?_ GE248.out)|exact HB.out)) hb);clear BK248;clear HB;have BK248:=n0_;have HB:=n1_;clear n0_ n1_;(try clear hb);(try clear hb2);(try clear hk);(try clear hi)))
          go_ret
          exact ⟨by first|rfl|(simp [errW_none,errW_some] <;> rfl)|(simp [*,errW_none,errW_some] <;> rfl),by repeat (first|(with_reducible first|exact HB.out|apply eA_|apply eN_|apply eD_|refine eS_ ?_ GE248.out)|exact HB.out)⟩
        ·rw [if_neg c16] at H
         have c16b0 : (a0_0 == 1) = false:=beq_eq_false_iff_ne.mpr c16
         have c16b1 : (a0_0 != 1) = true:=bne_iff_ne.mpr c16
         by_cases c28 : a0_4 = 0
         ·rw [if_pos c28] at H
          have c28b0 : (a0_4 == 0) = true:=beq_iff_eq.mpr c28
          have c28b1 : (a0_4 != 0) = false:=bne_eq_false_iff_eq.mpr c28
          clear c28
          obtain rfl:=Option.some.inj H
          have hcz29_0 : wc.cell? ⟨gb248,0,none⟩ = some (.int .i64 a0_0):=(bC_ BK248.out 0).trans rfl
          have hcz29_1 : wc.cell? ⟨gb248,1,none⟩ = some (.slice A0_1 l0_1.length c0_1):=(bC_ BK248.out 1).trans rfl
          have hcz29_2 : wc.cell? ⟨gb248,2,none⟩ = some (.slice A0_2 l0_2.length c0_2):=(bC_ BK248.out 2).trans rfl
          have hcz29_3 : wc.cell? ⟨gb248,3,none⟩ = some (.slice A0_3 l0_3.length c0_3):=(bC_ BK248.out 3).trans rfl
          have hcz29_4 : wc.cell? ⟨gb248,4,none⟩ = some (.int .i64 a0_4):=(bC_ BK248.out 4).trans rfl
          have hfz29_0:=bF_ BK248.out 0
          have hfz29_1:=bF_ BK248.out 1
          have hfz29_2:=bF_ BK248.out 2
          have hfz29_3:=bF_ BK248.out 3
          have hfz29_4:=bF_ BK248.out 4
          go_wp2_with (first|((with_reducible refine gate_callee (f:=43) rfl ?_);refine goesL_ (some 23) rfl rfl Tryd.func43 (by kernel_rfl) rfl #[.slice A0_1 l0_1.length c0_1] rfl (by (try simp only [List.map_toArray,List.map_cons,List.map_nil]);first|done|rfl|(simp only [List.length_drop,List.length_take];rfl)) ?_;(with_reducible refine (r12_props.calls kj5 _ _ l0_1 t250 _ ?side1 ?side2 A12.out).mono ?_);(case side1 => repeat (first|exact (Kd.C_below HR0_1.out HB.out)|(with_reducible refine Kd.C_alloc ?_ _)|(with_reducible refine Kd.C_drewN ?_ _)|(with_reducible refine Kd.C_drew ?_)));(case side2 => exact HC0_1.out);rintro e w30 ⟨rfl,hb⟩;refine ⟨_,rfl,?_⟩;have n0_:=A0_.mk (blk_below (g:=gb248) (o:=.cells #[.int .i64 a0_0,.slice A0_1 l0_1.length c0_1,.slice A0_2 l0_2.length c0_2,.slice A0_3 l0_3.length c0_3,.int .i64 a0_4] 28 (0,0)) (by (with_reducible repeat (first|refine bN_ ?_ _|refine bD_ ?_|refine bA_ ?_ _));exact BK248.out) hb);have n1_:=A0_.mk (below_step (by repeat (first|(with_reducible first|exact HB.out|apply eA_|apply eN_|apply eD_|refine eS_ ?_ GE248.out)|exact HB.out)) hb);clear BK248;clear HB;have BK248:=n0_;have HB:=n1_;clear n0_ n1_;(try clear hb);(try clear hb2);(try clear hk);(try clear hi);have hcz31_0 : w30.cell? ⟨gb248,0,none⟩ = some (.int .i64 a0_0):=(bC_ BK248.out 0).trans rfl;have hcz31_1 : w30.cell? ⟨gb248,1,none⟩ = some (.slice A0_1 l0_1.length c0_1):=(bC_ BK248.out 1).trans rfl;have hcz31_2 : w30.cell? ⟨gb248,2,none⟩ = some (.slice A0_2 l0_2.length c0_2):=(bC_ BK248.out 2).trans rfl;have hcz31_3 : w30.cell? ⟨gb248,3,none⟩ = some (.slice A0_3 l0_3.length c0_3):=(bC_ BK248.out 3).trans rfl;have hcz31_4 : w30.cell? ⟨gb248,4,none⟩ = some (.int .i64 a0_4):=(bC_ BK248.out 4).trans rfl;have hfz31_0:=bF_ BK248.out 0;have hfz31_1:=bF_ BK248.out 1;have hfz31_2:=bF_ BK248.out 2;have hfz31_3:=bF_ BK248.out 3;have hfz31_4:=bF_ BK248.out 4))
          go_ret
          exact ⟨by first|rfl|(simp [errW_none,errW_some] <;> rfl)|(simp [*,errW_none,errW_some] <;> rfl),by repeat (first|(with_reducible first|exact HB.out|apply eA_|apply eN_|apply eD_|refine eS_ ?_ GE248.out)|exact HB.out)⟩
         ·rw [if_neg c28] at H
          have c28b0 : (a0_4 == 0) = false:=beq_eq_false_iff_ne.mpr c28
          have c28b1 : (a0_4 != 0) = true:=bne_iff_ne.mpr c28
          obtain rfl:=Option.some.inj H
          have hcz32_0 : wc.cell? ⟨gb248,0,none⟩ = some (.int .i64 a0_0):=(bC_ BK248.out 0).trans rfl
          have hcz32_1 : wc.cell? ⟨gb248,1,none⟩ = some (.slice A0_1 l0_1.length c0_1):=(bC_ BK248.out 1).trans rfl
          have hcz32_2 : wc.cell? ⟨gb248,2,none⟩ = some (.slice A0_2 l0_2.length c0_2):=(bC_ BK248.out 2).trans rfl
          have hcz32_3 : wc.cell? ⟨gb248,3,none⟩ = some (.slice A0_3 l0_3.length c0_3):=(bC_ BK248.out 3).trans rfl
          have hcz32_4 : wc.cell? ⟨gb248,4,none⟩ = some (.int .i64 a0_4):=(bC_ BK248.out 4).trans rfl
          have hfz32_0:=bF_ BK248.out 0
          have hfz32_1:=bF_ BK248.out 1
          have hfz32_2:=bF_ BK248.out 2
          have hfz32_3:=bF_ BK248.out 3
          have hfz32_4:=bF_ BK248.out 4
          go_wp2_with (first|((with_reducible refine gate_callee (f:=43) rfl ?_);refine goesL_ (some 23) rfl rfl Tryd.func43 (by kernel_rfl) rfl #[.slice A0_1 l0_1.length c0_1] rfl (by (try simp only [List.map_toArray,List.map_cons,List.map_nil]);first|done|rfl|(simp only [List.length_drop,List.length_take];rfl)) ?_;(with_reducible refine (r12_props.calls kj5 _ _ l0_1 t250 _ ?side1 ?side2 A12.out).mono ?_);(case side1 => repeat (first|exact (Kd.C_below HR0_1.out HB.out)|(with_reducible refine Kd.C_alloc ?_ _)|(with_reducible refine Kd.C_drewN ?_ _)|(with_reducible refine Kd.C_drew ?_)));(case side2 => exact HC0_1.out);rintro e w33 ⟨rfl,hb⟩;refine ⟨_,rfl,?_⟩;have n0_:=A0_.mk (blk_below (g:=gb248) (o:=.cells #[.int .i64 a0_0,.slice A0_1 l0_1.length c0_1,.slice A0_2 l0_2.length c0_2,.slice A0_3 l0_3.length c0_3,.int .i64 a0_4] 28 (0,0)) (by (with_reducible repeat (first|refine bN_ ?_ _|refine bD_ ?_|refine bA_ ?_ _));exact BK248.out) hb);have n1_:=A0_.mk (below_step (by repeat (first|(with_reducible first|exact HB.out|apply eA_|apply eN_|apply eD_|refine eS_ ?_ GE248.out)|exact HB.out)) hb);clear BK248;clear HB;have BK248:=n0_;have HB:=n1_;clear n0_ n1_;(try clear hb);(try clear hb2);(try clear hk);(try clear hi);have hcz34_0 : w33.cell? ⟨gb248,0,none⟩ = some (.int .i64 a0_0):=(bC_ BK248.out 0).trans rfl;have hcz34_1 : w33.cell? ⟨gb248,1,none⟩ = some (.slice A0_1 l0_1.length c0_1):=(bC_ BK248.out 1).trans rfl;have hcz34_2 : w33.cell? ⟨gb248,2,none⟩ = some (.slice A0_2 l0_2.length c0_2):=(bC_ BK248.out 2).trans rfl;have hcz34_3 : w33.cell? ⟨gb248,3,none⟩ = some (.slice A0_3 l0_3.length c0_3):=(bC_ BK248.out 3).trans rfl;have hcz34_4 : w33.cell? ⟨gb248,4,none⟩ = some (.int .i64 a0_4):=(bC_ BK248.out 4).trans rfl;have hfz34_0:=bF_ BK248.out 0;have hfz34_1:=bF_ BK248.out 1;have hfz34_2:=bF_ BK248.out 2;have hfz34_3:=bF_ BK248.out 3;have hfz34_4:=bF_ BK248.out 4))
          go_ret
          exact ⟨by first|rfl|(simp [errW_none,errW_some] <;> rfl)|(simp [*,errW_none,errW_some] <;> rfl),by repeat (first|(with_reducible first|exact HB.out|apply eA_|apply eN_|apply eD_|refine eS_ ?_ GE248.out)|exact HB.out)⟩
       ·rw [if_neg c15] at H
        have c15b0 : ((l0_3.length : Int) == 0) = false:=beq_eq_false_iff_ne.mpr c15
        have c15b1 : ((l0_3.length : Int) != 0) = true:=bne_iff_ne.mpr c15
        have c15b2 : ¬ (l0_3 = []):=fun h_ => c15 (by rw [h_];rfl)
        by_cases c35 : a0_0 = 1
        ·rw [if_pos c35] at H
         have c35b0 : (a0_0 == 1) = true:=beq_iff_eq.mpr c35
         have c35b1 : (a0_0 != 1) = false:=bne_eq_false_iff_eq.mpr c35
         clear c35
         replace H:=Option.bind_eq_some_iff.mp H
         obtain ⟨t252,A360,H⟩:=H
         replace H : (if t252 = true then (some 0) else (some 4)) = some r:=H
         have A36:=A0_.mk A360
         clear A360
         by_cases c37 : t252 = true
         ·subst c37
          have H1 : (some 0) = some r:=by rw [if_pos rfl] at H;exact H
          clear H
          have H:=H1
          clear H1
          obtain rfl:=Option.some.inj H
          have hcz38_0 : wc.cell? ⟨gb248,0,none⟩ = some (.int .i64 a0_0):=(bC_ BK248.out 0).trans rfl
          have hcz38_1 : wc.cell? ⟨gb248,1,none⟩ = some (.slice A0_1 l0_1.length c0_1):=(bC_ BK248.out 1).trans rfl
          have hcz38_2 : wc.cell? ⟨gb248,2,none⟩ = some (.slice A0_2 l0_2.length c0_2):=(bC_ BK248.out 2).trans rfl
          have hcz38_3 : wc.cell? ⟨gb248,3,none⟩ = some (.slice A0_3 l0_3.length c0_3):=(bC_ BK248.out 3).trans rfl
          have hcz38_4 : wc.cell? ⟨gb248,4,none⟩ = some (.int .i64 a0_4):=(bC_ BK248.out 4).trans rfl
          have hfz38_0:=bF_ BK248.out 0
          have hfz38_1:=bF_ BK248.out 1
          have hfz38_2:=bF_ BK248.out 2
          have hfz38_3:=bF_ BK248.out 3
          have hfz38_4:=bF_ BK248.out 4
          go_wp2_with (first|((with_reducible refine gate_callee (f:=43) rfl ?_);refine goesL_ (some 23) rfl rfl Tryd.func43 (by kernel_rfl) rfl #[.slice A0_1 l0_1.length c0_1] rfl (by (try simp only [List.map_toArray,List.map_cons,List.map_nil]);first|done|rfl|(simp only [List.length_drop,List.length_take];rfl)) ?_;(with_reducible refine (r12_props.calls kj5 _ _ l0_1 t250 _ ?side1 ?side2 A12.out).mono ?_);(case side1 => repeat (first|exact (Kd.C_below HR0_1.out HB.out)|(with_reducible refine Kd.C_alloc ?_ _)|(with_reducible refine Kd.C_drewN ?_ _)|(with_reducible refine Kd.C_drew ?_)));(case side2 => exact HC0_1.out);rintro e w39 ⟨rfl,hb⟩;refine ⟨_,rfl,?_⟩;have n0_:=A0_.mk (blk_below (g:=gb248) (o:=.cells #[.int .i64 a0_0,.slice A0_1 l0_1.length c0_1,.slice A0_2 l0_2.length c0_2,.slice A0_3 l0_3.length c0_3,.int .i64 a0_4] 28 (0,0)) (by (with_reducible repeat (first|refine bN_ ?_ _|refine bD_ ?_|refine bA_ ?_ _));exact BK248.out) hb);have n1_:=A0_.mk (below_step (by repeat (first|(with_reducible first|exact HB.out|apply eA_|apply eN_|apply eD_|refine eS_ ?_ GE248.out)|exact HB.out)) hb);clear BK248;clear HB;have BK248:=n0_;have HB:=n1_;clear n0_ n1_;(try clear hb);(try clear hb2);(try clear hk);(try clear hi);have hcz40_0 : w39.cell? ⟨gb248,0,none⟩ = some (.int .i64 a0_0):=(bC_ BK248.out 0).trans rfl;have hcz40_1 : w39.cell? ⟨gb248,1,none⟩ = some (.slice A0_1 l0_1.length c0_1):=(bC_ BK248.out 1).trans rfl;have hcz40_2 : w39.cell? ⟨gb248,2,none⟩ = some (.slice A0_2 l0_2.length c0_2):=(bC_ BK248.out 2).trans rfl;have hcz40_3 : w39.cell? ⟨gb248,3,none⟩ = some (.slice A0_3 l0_3.length c0_3):=(bC_ BK248.out 3).trans rfl;have hcz40_4 : w39.cell? ⟨gb248,4,none⟩ = some (.int .i64 a0_4):=(bC_ BK248.out 4).trans rfl;have hfz40_0:=bF_ BK248.out 0;have hfz40_1:=bF_ BK248.out 1;have hfz40_2:=bF_ BK248.out 2;have hfz40_3:=bF_ BK248.out 3;have hfz40_4:=bF_ BK248.out 4)|(go_at_call 44;(with_reducible refine (r12_trace.calls kj5 _ _ l0_2 _ _ l0_3 a0_4 a1 a2 true _ ?side1 ?side2 ?side3 ?side4 A36.out).mono ?_);(case side1 => repeat (first|exact (Kd.C_below HR0_2.out HB.out)|(with_reducible refine Kd.C_alloc ?_ _)|(with_reducible refine Kd.C_drewN ?_ _)|(with_reducible refine Kd.C_drew ?_)));(case side2 => exact HC0_2.out);(case side3 => repeat (first|exact (Kd.C_below HR0_3.out HB.out)|(with_reducible refine Kd.C_alloc ?_ _)|(with_reducible refine Kd.C_drewN ?_ _)|(with_reducible refine Kd.C_drew ?_)));(case side4 => exact HC0_3.out);rintro e w41 ⟨rfl,hb⟩;have n0_:=A0_.mk (blk_below (g:=gb248) (o:=.cells #[.int .i64 a0_0,.slice A0_1 l0_1.length c0_1,.slice A0_2 l0_2.length c0_2,.slice A0_3 l0_3.length c0_3,.int .i64 a0_4] 28 (0,0)) (by (with_reducible repeat (first|refine bN_ ?_ _|refine bD_ ?_|refine bA_ ?_ _));exact BK248.out) hb);have n1_:=A0_.mk (below_step (by repeat (first|(with_reducible first|exact HB.out|apply eA_|apply eN_|apply eD_|refine eS_ ?_ GE248.out)|exact HB.out)) hb);clear BK248;clear HB;have BK248:=n0_;have HB:=n1_;clear n0_ n1_;(try clear hb);(try clear hb2);(try clear hk);(try clear hi);have hcz42_0 : w41.cell? ⟨gb248,0,none⟩ = some (.int .i64 a0_0):=(bC_ BK248.out 0).trans rfl;have hcz42_1 : w41.cell? ⟨gb248,1,none⟩ = some (.slice A0_1 l0_1.length c0_1):=(bC_ BK248.out 1).trans rfl;have hcz42_2 : w41.cell? ⟨gb248,2,none⟩ = some (.slice A0_2 l0_2.length c0_2):=(bC_ BK248.out 2).trans rfl;have hcz42_3 : w41.cell? ⟨gb248,3,none⟩ = some (.slice A0_3 l0_3.length c0_3):=(bC_ BK248.out 3).trans rfl;have hcz42_4 : w41.cell? ⟨gb248,4,none⟩ = some (.int .i64 a0_4):=(bC_ BK248.out 4).trans rfl;have hfz42_0:=bF_ BK248.out 0;have hfz42_1:=bF_ BK248.out 1;have hfz42_2:=bF_ BK248.out 2;have hfz42_3:=bF_ BK248.out 3;have hfz42_4:=bF_ BK248.out 4))
          go_ret
          exact ⟨by first|rfl|(simp [errW_none,errW_some] <;> rfl)|(simp [*,errW_none,errW_some] <;> rfl),by repeat (first|(with_reducible first|exact HB.out|apply eA_|apply eN_|apply eD_|refine eS_ ?_ GE248.out)|exact HB.out)⟩
         ·replace c37:=Bool.eq_false_iff.mpr c37
          subst c37
          have H1 : (some 4) = some r:=by rw [if_neg (show ¬ (false = true) by decide)] at H;exact H
          clear H
          have H:=H1
          clear H1
          obtain rfl:=Option.some.inj H
          have hcz43_0 : wc.cell? ⟨gb248,0,none⟩ = some (.int .i64 a0_0):=(bC_ BK248.out 0).trans rfl
          have hcz43_1 : wc.cell? ⟨gb248,1,none⟩ = some (.slice A0_1 l0_1.length c0_1):=(bC_ BK248.out 1).trans rfl
          have hcz43_2 : wc.cell? ⟨gb248,2,none⟩ = some (.slice A0_2 l0_2.length c0_2):=(bC_ BK248.out 2).trans rfl
          have hcz43_3 : wc.cell? ⟨gb248,3,none⟩ = some (.slice A0_3 l0_3.length c0_3):=(bC_ BK248.out 3).trans rfl
          have hcz43_4 : wc.cell? ⟨gb248,4,none⟩ = some (.int .i64 a0_4):=(bC_ BK248.out 4).trans rfl
          have hfz43_0:=bF_ BK248.out 0
          have hfz43_1:=bF_ BK248.out 1
          have hfz43_2:=bF_ BK248.out 2
          have hfz43_3:=bF_ BK248.out 3
          have hfz43_4:=bF_ BK248.out 4
          go_wp2_with (first|((with_reducible refine gate_callee (f:=43) rfl ?_);refine goesL_ (some 23) rfl rfl Tryd.func43 (by kernel_rfl) rfl #[.slice A0_1 l0_1.length c0_1] rfl (by (try simp only [List.map_toArray,List.map_cons,List.map_nil]);first|done|rfl|(simp only [List.length_drop,List.length_take];rfl)) ?_;(with_reducible refine (r12_props.calls kj5 _ _ l0_1 t250 _ ?side1 ?side2 A12.out).mono ?_);(case side1 => repeat (first|exact (Kd.C_below HR0_1.out HB.out)|(with_reducible refine Kd.C_alloc ?_ _)|(with_reducible refine Kd.C_drewN ?_ _)|(with_reducible refine Kd.C_drew ?_)));(case side2 => exact HC0_1.out);rintro e w44 ⟨rfl,hb⟩;refine ⟨_,rfl,?_⟩;have n0_:=A0_.mk (blk_below (g:=gb248) (o:=.cells #[.int .i64 a0_0,.slice A0_1 l0_1.length c0_1,.slice A0_2 l0_2.length c0_2,.slice A0_3 l0_3.length c0_3,.int .i64 a0_4] 28 (0,0)) (by (with_reducible repeat (first|refine bN_ ?_ _|refine bD_ ?_|refine bA_ ?_ _));exact BK248.out) hb);have n1_:=A0_.mk (below_step (by repeat (first|(with_reducible first|exact HB.out|apply eA_|apply eN_|apply eD_|refine eS_ ?_ GE248.out)|exact HB.out)) hb);clear BK248;clear HB;have BK248:=n0_;have HB:=n1_;clear n0_ n1_;(try clear hb);(try clear hb2);(try clear hk);(try clear hi);have hcz45_0 : w44.cell? ⟨gb248,0,none⟩ = some (.int .i64 a0_0):=(bC_ BK248.out 0).trans rfl;have hcz45_1 : w44.cell? ⟨gb248,1,none⟩ = some (.slice A0_1 l0_1.length c0_1):=(bC_ BK248.out 1).trans rfl;have hcz45_2 : w44.cell? ⟨gb248,2,none⟩ = some (.slice A0_2 l0_2.length c0_2):=(bC_ BK248.out 2).trans rfl;have hcz45_3 : w44.cell? ⟨gb248,3,none⟩ = some (.slice A0_3 l0_3.length c0_3):=(bC_ BK248.out 3).trans rfl;have hcz45_4 : w44.cell? ⟨gb248,4,none⟩ = some (.int .i64 a0_4):=(bC_ BK248.out 4).trans rfl;have hfz45_0:=bF_ BK248.out 0;have hfz45_1:=bF_ BK248.out 1;have hfz45_2:=bF_ BK248.out 2;have hfz45_3:=bF_ BK248.out 3;have hfz45_4:=bF_ BK248.out 4)|(go_at_call 44;(with_reducible refine (r12_trace.calls kj5 _ _ l0_2 _ _ l0_3 a0_4 a1 a2 false _ ?side1 ?side2 ?side3 ?side4 A36.out).mono ?_);(case side1 => repeat (first|exact (Kd.C_below HR0_2.out HB.out)|(with_reducible refine Kd.C_alloc ?_ _)|(with_reducible refine Kd.C_drewN ?_ _)|(with_reducible refine Kd.C_drew ?_)));(case side2 => exact HC0_2.out);(case side3 => repeat (first|exact (Kd.C_below HR0_3.out HB.out)|(with_reducible refine Kd.C_alloc ?_ _)|(with_reducible refine Kd.C_drewN ?_ _)|(with_reducible refine Kd.C_drew ?_)));(case side4 => exact HC0_3.out);rintro e w46 ⟨rfl,hb⟩;have n0_:=A0_.mk (blk_below (g:=gb248) (o:=.cells #[.int .i64 a0_0,.slice A0_1 l0_1.length c0_1,.slice A0_2 l0_2.length c0_2,.slice A0_3 l0_3.length c0_3,.int .i64 a0_4] 28 (0,0)) (by (with_reducible repeat (first|refine bN_ ?_ _|refine bD_ ?_|refine bA_ ?_ _));exact BK248.out) hb);have n1_:=A0_.mk (below_step (by repeat (first|(with_reducible first|exact HB.out|apply eA_|apply eN_|apply eD_|refine eS_ ?_ GE248.out)|exact HB.out)) hb);clear BK248;clear HB;have BK248:=n0_;have HB:=n1_;clear n0_ n1_;(try clear hb);(try clear hb2);(try clear hk);(try clear hi)))
          go_ret
          exact ⟨by first|rfl|(simp [errW_none,errW_some] <;> rfl)|(simp [*,errW_none,errW_some] <;> rfl),by repeat (first|(with_reducible first|exact HB.out|apply eA_|apply eN_|apply eD_|refine eS_ ?_ GE248.out)|exact HB.out)⟩
        ·rw [if_neg c35] at H
         have c35b0 : (a0_0 == 1) = false:=beq_eq_false_iff_ne.mpr c35
         have c35b1 : (a0_0 != 1) = true:=bne_iff_ne.mpr c35
         obtain rfl:=Option.some.inj H
         have hcz47_0 : wc.cell? ⟨gb248,0,none⟩ = some (.int .i64 a0_0):=(bC_ BK248.out 0).trans rfl
         have hcz47_1 : wc.cell? ⟨gb248,1,none⟩ = some (.slice A0_1 l0_1.length c0_1):=(bC_ BK248.out 1).trans rfl
         have hcz47_2 : wc.cell? ⟨gb248,2,none⟩ = some (.slice A0_2 l0_2.length c0_2):=(bC_ BK248.out 2).trans rfl
         have hcz47_3 : wc.cell? ⟨gb248,3,none⟩ = some (.slice A0_3 l0_3.length c0_3):=(bC_ BK248.out 3).trans rfl
         have hcz47_4 : wc.cell? ⟨gb248,4,none⟩ = some (.int .i64 a0_4):=(bC_ BK248.out 4).trans rfl
         have hfz47_0:=bF_ BK248.out 0
         have hfz47_1:=bF_ BK248.out 1
         have hfz47_2:=bF_ BK248.out 2
         have hfz47_3:=bF_ BK248.out 3
         have hfz47_4:=bF_ BK248.out 4
         go_wp2_with (first|((with_reducible refine gate_callee (f:=43) rfl ?_);refine goesL_ (some 23) rfl rfl Tryd.func43 (by kernel_rfl) rfl #[.slice A0_1 l0_1.length c0_1] rfl (by (try simp only [List.map_toArray,List.map_cons,List.map_nil]);first|done|rfl|(simp only [List.length_drop,List.length_take];rfl)) ?_;(with_reducible refine (r12_props.calls kj5 _ _ l0_1 t250 _ ?side1 ?side2 A12.out).mono ?_);(case side1 => repeat (first|exact (Kd.C_below HR0_1.out HB.out)|(with_reducible refine Kd.C_alloc ?_ _)|(with_reducible refine Kd.C_drewN ?_ _)|(with_reducible refine Kd.C_drew ?_)));(case side2 => exact HC0_1.out);rintro e w48 ⟨rfl,hb⟩;refine ⟨_,rfl,?_⟩;have n0_:=A0_.mk (blk_below (g:=gb248) (o:=.cells #[.int .i64 a0_0,.slice A0_1 l0_1.length c0_1,.slice A0_2 l0_2.length c0_2,.slice A0_3 l0_3.length c0_3,.int .i64 a0_4] 28 (0,0)) (by (with_reducible repeat (first|refine bN_ ?_ _|refine bD_ ?_|refine bA_ ?_ _));exact BK248.out) hb);have n1_:=A0_.mk (below_step (by repeat (first|(with_reducible first|exact HB.out|apply eA_|apply eN_|apply eD_|refine eS_ ?_ GE248.out)|exact HB.out)) hb);clear BK248;clear HB;have BK248:=n0_;have HB:=n1_;clear n0_ n1_;(try clear hb);(try clear hb2);(try clear hk);(try clear hi);have hcz49_0 : w48.cell? ⟨gb248,0,none⟩ = some (.int .i64 a0_0):=(bC_ BK248.out 0).trans rfl;have hcz49_1 : w48.cell? ⟨gb248,1,none⟩ = some (.slice A0_1 l0_1.length c0_1):=(bC_ BK248.out 1).trans rfl;have hcz49_2 : w48.cell? ⟨gb248,2,none⟩ = some (.slice A0_2 l0_2.length c0_2):=(bC_ BK248.out 2).trans rfl;have hcz49_3 : w48.cell? ⟨gb248,3,none⟩ = some (.slice A0_3 l0_3.length c0_3):=(bC_ BK248.out 3).trans rfl;have hcz49_4 : w48.cell? ⟨gb248,4,none⟩ = some (.int .i64 a0_4):=(bC_ BK248.out 4).trans rfl;have hfz49_0:=bF_ BK248.out 0;have hfz49_1:=bF_ BK248.out 1;have hfz49_2:=bF_ BK248.out 2;have hfz49_3:=bF_ BK248.out 3;have hfz49_4:=bF_ BK248.out 4))
         go_ret
         exact ⟨by first|rfl|(simp [errW_none,errW_some] <;> rfl)|(simp [*,errW_none,errW_some] <;> rfl),by repeat (first|(with_reducible first|exact HB.out|apply eA_|apply eN_|apply eD_|refine eS_ ?_ GE248.out)|exact HB.out)⟩
      ·rw [if_neg c14] at H
       have c14b0 : ((l0_2.length : Int) == 0) = false:=beq_eq_false_iff_ne.mpr c14
       have c14b1 : ((l0_2.length : Int) != 0) = true:=bne_iff_ne.mpr c14
       have c14b2 : ¬ (l0_2 = []):=fun h_ => c14 (by rw [h_];rfl)
       by_cases c50 : a0_0 = 1
       ·rw [if_pos c50] at H
        have c50b0 : (a0_0 == 1) = true:=beq_iff_eq.mpr c50
        have c50b1 : (a0_0 != 1) = false:=bne_eq_false_iff_eq.mpr c50
        clear c50
        replace H:=Option.bind_eq_some_iff.mp H
        obtain ⟨t253,A510,H⟩:=H
        replace H : (if t253 = true then (some 0) else (some 4)) = some r:=H
        have A51:=A0_.mk A510
        clear A510
        by_cases c52 : t253 = true
        ·subst c52
         have H1 : (some 0) = some r:=by rw [if_pos rfl] at H;exact H
         clear H
         have H:=H1
         clear H1
         obtain rfl:=Option.some.inj H
         have hcz53_0 : wc.cell? ⟨gb248,0,none⟩ = some (.int .i64 a0_0):=(bC_ BK248.out 0).trans rfl
         have hcz53_1 : wc.cell? ⟨gb248,1,none⟩ = some (.slice A0_1 l0_1.length c0_1):=(bC_ BK248.out 1).trans rfl
         have hcz53_2 : wc.cell? ⟨gb248,2,none⟩ = some (.slice A0_2 l0_2.length c0_2):=(bC_ BK248.out 2).trans rfl
         have hcz53_3 : wc.cell? ⟨gb248,3,none⟩ = some (.slice A0_3 l0_3.length c0_3):=(bC_ BK248.out 3).trans rfl
         have hcz53_4 : wc.cell? ⟨gb248,4,none⟩ = some (.int .i64 a0_4):=(bC_ BK248.out 4).trans rfl
         have hfz53_0:=bF_ BK248.out 0
         have hfz53_1:=bF_ BK248.out 1
         have hfz53_2:=bF_ BK248.out 2
         have hfz53_3:=bF_ BK248.out 3
         have hfz53_4:=bF_ BK248.out 4
         go_wp2_with (first|((with_reducible refine gate_callee (f:=43) rfl ?_);refine goesL_ (some 23) rfl rfl Tryd.func43 (by kernel_rfl) rfl #[.slice A0_1 l0_1.length c0_1] rfl (by (try simp only [List.map_toArray,List.map_cons,List.map_nil]);first|done|rfl|(simp only [List.length_drop,List.length_take];rfl)) ?_;(with_reducible refine (r12_props.calls kj5 _ _ l0_1 t250 _ ?side1 ?side2 A12.out).mono ?_);(case side1 => repeat (first|exact (Kd.C_below HR0_1.out HB.out)|(with_reducible refine Kd.C_alloc ?_ _)|(with_reducible refine Kd.C_drewN ?_ _)|(with_reducible refine Kd.C_drew ?_)));(case side2 => exact HC0_1.out);rintro e w54 ⟨rfl,hb⟩;refine ⟨_,rfl,?_⟩;have n0_:=A0_.mk (blk_below (g:=gb248) (o:=.cells #[.int .i64 a0_0,.slice A0_1 l0_1.length c0_1,.slice A0_2 l0_2.length c0_2,.slice A0_3 l0_3.length c0_3,.int .i64 a0_4] 28 (0,0)) (by (with_reducible repeat (first|refine bN_ ?_ _|refine bD_ ?_|refine bA_ ?_ _));exact BK248.out) hb);have n1_:=A0_.mk (below_step (by repeat (first|(with_reducible first|exact HB.out|apply eA_|apply eN_|apply eD_|refine eS_ ?_ GE248.out)|exact HB.out)) hb);clear BK248;clear HB;have BK248:=n0_;have HB:=n1_;clear n0_ n1_;(try clear hb);(try clear hb2);(try clear hk);(try clear hi);have hcz55_0 : w54.cell? ⟨gb248,0,none⟩ = some (.int .i64 a0_0):=(bC_ BK248.out 0).trans rfl;have hcz55_1 : w54.cell? ⟨gb248,1,none⟩ = some (.slice A0_1 l0_1.length c0_1):=(bC_ BK248.out 1).trans rfl;have hcz55_2 : w54.cell? ⟨gb248,2,none⟩ = some (.slice A0_2 l0_2.length c0_2):=(bC_ BK248.out 2).trans rfl;have hcz55_3 : w54.cell? ⟨gb248,3,none⟩ = some (.slice A0_3 l0_3.length c0_3):=(bC_ BK248.out 3).trans rfl;have hcz55_4 : w54.cell? ⟨gb248,4,none⟩ = some (.int .i64 a0_4):=(bC_ BK248.out 4).trans rfl;have hfz55_0:=bF_ BK248.out 0;have hfz55_1:=bF_ BK248.out 1;have hfz55_2:=bF_ BK248.out 2;have hfz55_3:=bF_ BK248.out 3;have hfz55_4:=bF_ BK248.out 4)|(go_at_call 44;(with_reducible refine (r12_trace.calls kj5 _ _ l0_2 _ _ l0_3 a0_4 a1 a2 true _ ?side1 ?side2 ?side3 ?side4 A51.out).mono ?_);(case side1 => repeat (first|exact (Kd.C_below HR0_2.out HB.out)|(with_reducible refine Kd.C_alloc ?_ _)|(with_reducible refine Kd.C_drewN ?_ _)|(with_reducible refine Kd.C_drew ?_)));(case side2 => exact HC0_2.out);(case side3 => repeat (first|exact (Kd.C_below HR0_3.out HB.out)|(with_reducible refine Kd.C_alloc ?_ _)|(with_reducible refine Kd.C_drewN ?_ _)|(with_reducible refine Kd.C_drew ?_)));(case side4 => exact HC0_3.out);rintro e w56 ⟨rfl,hb⟩;have n0_:=A0_.mk (blk_below (g:=gb248) (o:=.cells #[.int .i64 a0_0,.slice A0_1 l0_1.length c0_1,.slice A0_2 l0_2.length c0_2,.slice A0_3 l0_3.length c0_3,.int .i64 a0_4] 28 (0,0)) (by (with_reducible repeat (first|refine bN_ ?_ _|refine bD_ ?_|refine bA_ ?_ _));exact BK248.out) hb);have n1_:=A0_.mk (below_step (by repeat (first|(with_reducible first|exact HB.out|apply eA_|apply eN_|apply eD_|refine eS_ ?_ GE248.out)|exact HB.out)) hb);clear BK248;clear HB;have BK248:=n0_;have HB:=n1_;clear n0_ n1_;(try clear hb);(try clear hb2);(try clear hk);(try clear hi);have hcz57_0 : w56.cell? ⟨gb248,0,none⟩ = some (.int .i64 a0_0):=(bC_ BK248.out 0).trans rfl;have hcz57_1 : w56.cell? ⟨gb248,1,none⟩ = some (.slice A0_1 l0_1.length c0_1):=(bC_ BK248.out 1).trans rfl;have hcz57_2 : w56.cell? ⟨gb248,2,none⟩ = some (.slice A0_2 l0_2.length c0_2):=(bC_ BK248.out 2).trans rfl;have hcz57_3 : w56.cell? ⟨gb248,3,none⟩ = some (.slice A0_3 l0_3.length c0_3):=(bC_ BK248.out 3).trans rfl;have hcz57_4 : w56.cell? ⟨gb248,4,none⟩ = some (.int .i64 a0_4):=(bC_ BK248.out 4).trans rfl;have hfz57_0:=bF_ BK248.out 0;have hfz57_1:=bF_ BK248.out 1;have hfz57_2:=bF_ BK248.out 2;have hfz57_3:=bF_ BK248.out 3;have hfz57_4:=bF_ BK248.out 4))
         go_ret
         exact ⟨by first|rfl|(simp [errW_none,errW_some] <;> rfl)|(simp [*,errW_none,errW_some] <;> rfl),by repeat (first|(with_reducible first|exact HB.out|apply eA_|apply eN_|apply eD_|refine eS_ ?_ GE248.out)|exact HB.out)⟩
        ·replace c52:=Bool.eq_false_iff.mpr c52
         subst c52
         have H1 : (some 4) = some r:=by rw [if_neg (show ¬ (false = true) by decide)] at H;exact H
         clear H
         have H:=H1
         clear H1
         obtain rfl:=Option.some.inj H
         have hcz58_0 : wc.cell? ⟨gb248,0,none⟩ = some (.int .i64 a0_0):=(bC_ BK248.out 0).trans rfl
         have hcz58_1 : wc.cell? ⟨gb248,1,none⟩ = some (.slice A0_1 l0_1.length c0_1):=(bC_ BK248.out 1).trans rfl
         have hcz58_2 : wc.cell? ⟨gb248,2,none⟩ = some (.slice A0_2 l0_2.length c0_2):=(bC_ BK248.out 2).trans rfl
         have hcz58_3 : wc.cell? ⟨gb248,3,none⟩ = some (.slice A0_3 l0_3.length c0_3):=(bC_ BK248.out 3).trans rfl
         have hcz58_4 : wc.cell? ⟨gb248,4,none⟩ = some (.int .i64 a0_4):=(bC_ BK248.out 4).trans rfl
         have hfz58_0:=bF_ BK248.out 0
         have hfz58_1:=bF_ BK248.out 1
         have hfz58_2:=bF_ BK248.out 2
         have hfz58_3:=bF_ BK248.out 3
         have hfz58_4:=bF_ BK248.out 4
         go_wp2_with (first|((with_reducible refine gate_callee (f:=43) rfl ?_);refine goesL_ (some 23) rfl rfl Tryd.func43 (by kernel_rfl) rfl #[.slice A0_1 l0_1.length c0_1] rfl (by (try simp only [List.map_toArray,List.map_cons,List.map_nil]);first|done|rfl|(simp only [List.length_drop,List.length_take];rfl)) ?_;(with_reducible refine (r12_props.calls kj5 _ _ l0_1 t250 _ ?side1 ?side2 A12.out).mono ?_);(case side1 => repeat (first|exact (Kd.C_below HR0_1.out HB.out)|(with_reducible refine Kd.C_alloc ?_ _)|(with_reducible refine Kd.C_drewN ?_ _)|(with_reducible refine Kd.C_drew ?_)));(case side2 => exact HC0_1.out);rintro e w59 ⟨rfl,hb⟩;refine ⟨_,rfl,?_⟩;have n0_:=A0_.mk (blk_below (g:=gb248) (o:=.cells #[.int .i64 a0_0,.slice A0_1 l0_1.length c0_1,.slice A0_2 l0_2.length c0_2,.slice A0_3 l0_3.length c0_3,.int .i64 a0_4] 28 (0,0)) (by (with_reducible repeat (first|refine bN_ ?_ _|refine bD_ ?_|refine bA_ ?_ _));exact BK248.out) hb);have n1_:=A0_.mk (below_step (by repeat (first|(with_reducible first|exact HB.out|apply eA_|apply eN_|apply eD_|refine eS_ ?_ GE248.out)|exact HB.out)) hb);clear BK248;clear HB;have BK248:=n0_;have HB:=n1_;clear n0_ n1_;(try clear hb);(try clear hb2);(try clear hk);(try clear hi);have hcz60_0 : w59.cell? ⟨gb248,0,none⟩ = some (.int .i64 a0_0):=(bC_ BK248.out 0).trans rfl;have hcz60_1 : w59.cell? ⟨gb248,1,none⟩ = some (.slice A0_1 l0_1.length c0_1):=(bC_ BK248.out 1).trans rfl;have hcz60_2 : w59.cell? ⟨gb248,2,none⟩ = some (.slice A0_2 l0_2.length c0_2):=(bC_ BK248.out 2).trans rfl;have hcz60_3 : w59.cell? ⟨gb248,3,none⟩ = some (.slice A0_3 l0_3.length c0_3):=(bC_ BK248.out 3).trans rfl;have hcz60_4 : w59.cell? ⟨gb248,4,none⟩ = some (.int .i64 a0_4):=(bC_ BK248.out 4).trans rfl;have hfz60_0:=bF_ BK248.out 0;have hfz60_1:=bF_ BK248.out 1;have hfz60_2:=bF_ BK248.out 2;have hfz60_3:=bF_ BK248.out 3;have hfz60_4:=bF_ BK248.out 4)|(go_at_call 44;(with_reducible refine (r12_trace.calls kj5 _ _ l0_2 _ _ l0_3 a0_4 a1 a2 false _ ?side1 ?side2 ?side3 ?side4 A51.out).mono ?_);(case side1 => repeat (first|exact (Kd.C_below HR0_2.out HB.out)|(with_reducible refine Kd.C_alloc ?_ _)|(with_reducible refine Kd.C_drewN ?_ _)|(with_reducible refine Kd.C_drew ?_)));(case side2 => exact HC0_2.out);(case side3 => repeat (first|exact (Kd.C_below HR0_3.out HB.out)|(with_reducible refine Kd.C_alloc ?_ _)|(with_reducible refine Kd.C_drewN ?_ _)|(with_reducible refine Kd.C_drew ?_)));(case side4 => exact HC0_3.out);rintro e w61 ⟨rfl,hb⟩;have n0_:=A0_.mk (blk_below (g:=gb248) (o:=.cells #[.int .i64 a0_0,.slice A0_1 l0_1.length c0_1,.slice A0_2 l0_2.length c0_2,.slice A0_3 l0_3.length c0_3,.int .i64 a0_4] 28 (0,0)) (by (with_reducible repeat (first|refine bN_ ?_ _|refine bD_ ?_|refine bA_ ?_ _));exact BK248.out) hb);have n1_:=A0_.mk (below_step (by repeat (first|(with_reducible first|exact HB.out|apply eA_|apply eN_|apply eD_|refine eS_ ?_ GE248.out)|exact HB.out)) hb);clear BK248;clear HB;have BK248:=n0_;have HB:=n1_;clear n0_ n1_;(try clear hb);(try clear hb2);(try clear hk);(try clear hi)))
         go_ret
         exact ⟨by first|rfl|(simp [errW_none,errW_some] <;> rfl)|(simp [*,errW_none,errW_some] <;> rfl),by repeat (first|(with_reducible first|exact HB.out|apply eA_|apply eN_|apply eD_|refine eS_ ?_ GE248.out)|exact HB.out)⟩
       ·rw [if_neg c50] at H
        have c50b0 : (a0_0 == 1) = false:=beq_eq_false_iff_ne.mpr c50
        have c50b1 : (a0_0 != 1) = true:=bne_iff_ne.mpr c50
        obtain rfl:=Option.some.inj H
        have hcz62_0 : wc.cell? ⟨gb248,0,none⟩ = some (.int .i64 a0_0):=(bC_ BK248.out 0).trans rfl
        have hcz62_1 : wc.cell? ⟨gb248,1,none⟩ = some (.slice A0_1 l0_1.length c0_1):=(bC_ BK248.out 1).trans rfl
        have hcz62_2 : wc.cell? ⟨gb248,2,none⟩ = some (.slice A0_2 l0_2.length c0_2):=(bC_ BK248.out 2).trans rfl
        have hcz62_3 : wc.cell? ⟨gb248,3,none⟩ = some (.slice A0_3 l0_3.length c0_3):=(bC_ BK248.out 3).trans rfl
        have hcz62_4 : wc.cell? ⟨gb248,4,none⟩ = some (.int .i64 a0_4):=(bC_ BK248.out 4).trans rfl
        have hfz62_0:=bF_ BK248.out 0
        have hfz62_1:=bF_ BK248.out 1
        have hfz62_2:=bF_ BK248.out 2
        have hfz62_3:=bF_ BK248.out 3
        have hfz62_4:=bF_ BK248.out 4
        go_wp2_with (first|((with_reducible refine gate_callee (f:=43) rfl ?_);refine goesL_ (some 23) rfl rfl Tryd.func43 (by kernel_rfl) rfl #[.slice A0_1 l0_1.length c0_1] rfl (by (try simp only [List.map_toArray,List.map_cons,List.map_nil]);first|done|rfl|(simp only [List.length_drop,List.length_take];rfl)) ?_;(with_reducible refine (r12_props.calls kj5 _ _ l0_1 t250 _ ?side1 ?side2 A12.out).mono ?_);(case side1 => repeat (first|exact (Kd.C_below HR0_1.out HB.out)|(with_reducible refine Kd.C_alloc ?_ _)|(with_reducible refine Kd.C_drewN ?_ _)|(with_reducible refine Kd.C_drew ?_)));(case side2 => exact HC0_1.out);rintro e w63 ⟨rfl,hb⟩;refine ⟨_,rfl,?_⟩;have n0_:=A0_.mk (blk_below (g:=gb248) (o:=.cells #[.int .i64 a0_0,.slice A0_1 l0_1.length c0_1,.slice A0_2 l0_2.length c0_2,.slice A0_3 l0_3.length c0_3,.int .i64 a0_4] 28 (0,0)) (by (with_reducible repeat (first|refine bN_ ?_ _|refine bD_ ?_|refine bA_ ?_ _));exact BK248.out) hb);have n1_:=A0_.mk (below_step (by repeat (first|(with_reducible first|exact HB.out|apply eA_|apply eN_|apply eD_|refine eS_ ?_ GE248.out)|exact HB.out)) hb);clear BK248;clear HB;have BK248:=n0_;have HB:=n1_;clear n0_ n1_;(try clear hb);(try clear hb2);(try clear hk);(try clear hi);have hcz64_0 : w63.cell? ⟨gb248,0,none⟩ = some (.int .i64 a0_0):=(bC_ BK248.out 0).trans rfl;have hcz64_1 : w63.cell? ⟨gb248,1,none⟩ = some (.slice A0_1 l0_1.length c0_1):=(bC_ BK248.out 1).trans rfl;have hcz64_2 : w63.cell? ⟨gb248,2,none⟩ = some (.slice A0_2 l0_2.length c0_2):=(bC_ BK248.out 2).trans rfl;have hcz64_3 : w63.cell? ⟨gb248,3,none⟩ = some (.slice A0_3 l0_3.length c0_3):=(bC_ BK248.out 3).trans rfl;have hcz64_4 : w63.cell? ⟨gb248,4,none⟩ = some (.int .i64 a0_4):=(bC_ BK248.out 4).trans rfl;have hfz64_0:=bF_ BK248.out 0;have hfz64_1:=bF_ BK248.out 1;have hfz64_2:=bF_ BK248.out 2;have hfz64_3:=bF_ BK248.out 3;have hfz64_4:=bF_ BK248.out 4))
        go_ret
        exact ⟨by first|rfl|(simp [errW_none,errW_some] <;> rfl)|(simp [*,errW_none,errW_some] <;> rfl),by repeat (first|(with_reducible first|exact HB.out|apply eA_|apply eN_|apply eD_|refine eS_ ?_ GE248.out)|exact HB.out)⟩
     ·rw [if_neg c13] at H
      have c13b0 : (t250 == 0) = false:=beq_eq_false_iff_ne.mpr c13
      have c13b1 : (t250 != 0) = true:=bne_iff_ne.mpr c13
      obtain rfl:=Option.some.inj H
      have hcz65_0 : wc.cell? ⟨gb248,0,none⟩ = some (.int .i64 a0_0):=(bC_ BK248.out 0).trans rfl
      have hcz65_1 : wc.cell? ⟨gb248,1,none⟩ = some (.slice A0_1 l0_1.length c0_1):=(bC_ BK248.out 1).trans rfl
      have hcz65_2 : wc.cell? ⟨gb248,2,none⟩ = some (.slice A0_2 l0_2.length c0_2):=(bC_ BK248.out 2).trans rfl
      have hcz65_3 : wc.cell? ⟨gb248,3,none⟩ = some (.slice A0_3 l0_3.length c0_3):=(bC_ BK248.out 3).trans rfl
      have hcz65_4 : wc.cell? ⟨gb248,4,none⟩ = some (.int .i64 a0_4):=(bC_ BK248.out 4).trans rfl
      have hfz65_0:=bF_ BK248.out 0
      have hfz65_1:=bF_ BK248.out 1
      have hfz65_2:=bF_ BK248.out 2
      have hfz65_3:=bF_ BK248.out 3
      have hfz65_4:=bF_ BK248.out 4
      go_wp2_with (first|((with_reducible refine gate_callee (f:=43) rfl ?_);refine goesL_ (some 23) rfl rfl Tryd.func43 (by kernel_rfl) rfl #[.slice A0_1 l0_1.length c0_1] rfl (by (try simp only [List.map_toArray,List.map_cons,List.map_nil]);first|done|rfl|(simp only [List.length_drop,List.length_take];rfl)) ?_;(with_reducible refine (r12_props.calls kj5 _ _ l0_1 t250 _ ?side1 ?side2 A12.out).mono ?_);(case side1 => repeat (first|exact (Kd.C_below HR0_1.out HB.out)|(with_reducible refine Kd.C_alloc ?_ _)|(with_reducible refine Kd.C_drewN ?_ _)|(with_reducible refine Kd.C_drew ?_)));(case side2 => exact HC0_1.out);rintro e w66 ⟨rfl,hb⟩;refine ⟨_,rfl,?_⟩;have n0_:=A0_.mk (blk_below (g:=gb248) (o:=.cells #[.int .i64 a0_0,.slice A0_1 l0_1.length c0_1,.slice A0_2 l0_2.length c0_2,.slice A0_3 l0_3.length c0_3,.int .i64 a0_4] 28 (0,0)) (by (with_reducible repeat (first|refine bN_ ?_ _|refine bD_ ?_|refine bA_ ?_ _));exact BK248.out) hb);have n1_:=A0_.mk (below_step (by repeat (first|(with_reducible first|exact HB.out|apply eA_|apply eN_|apply eD_|refine eS_ ?_ GE248.out)|exact HB.out)) hb);clear BK248;clear HB;have BK248:=n0_;have HB:=n1_;clear n0_ n1_;(try clear hb);(try clear hb2);(try clear hk);(try clear hi)))
      go_ret
      exact ⟨by first|rfl|(simp [errW_none,errW_some] <;> rfl)|(simp [*,errW_none,errW_some] <;> rfl),by repeat (first|(with_reducible first|exact HB.out|apply eA_|apply eN_|apply eD_|refine eS_ ?_ GE248.out)|exact HB.out)⟩
 ·replace c5:=Bool.eq_false_iff.mpr c5
  subst c5
  have H1 : (some 1) = some r:=by rw [if_neg (show ¬ (false = true) by decide)] at H;exact H
  clear H
  have H:=H1
  clear H1
  obtain rfl:=Option.some.inj H
  go_enter Tryd.func16,Tryd.ntmps16
  go_wp2_with (first|((with_reducible refine gate_dst (N:=3) rfl ?_);(try (refine gate_guard (by rfl) ?_;dsimp only));refine box_event ?hg (N:=3) ?hd (cs:=#[.int .i64 a0_0,.slice A0_1 l0_1.length c0_1,.slice A0_2 l0_2.length c0_2,.slice A0_3 l0_3.length c0_3,.int .i64 a0_4]) (t:=28) ?hr ?_;(case hd => rfl);(case hg => rfl);(case hr => first|(go_simp;done)|(go_simp;rfl));intro gb248 hg w67 hbox hb;have n0_:=A0_.mk (below_step (by repeat (first|(with_reducible first|exact HB.out|apply eA_|apply eN_|apply eD_)|exact HB.out)) hb);have n1_:=A0_.mk (hbox);have n2_:=A0_.mk ((by rw [hg];exact (below_size (by repeat (first|(with_reducible first|exact HB.out|apply eA_|apply eN_|apply eD_)|exact HB.out))) : w.heap.size ≤ gb248));have n3_:=A0_.mk ((by rw [hg];exact (below_size (by repeat (first|(with_reducible first|exact HB.out|apply eA_|apply eN_|apply eD_)|exact HB.out))) : w.heap.size ≤ gb248));clear HB;have HB:=n0_;have BK248:=n1_;have GW248:=n2_;have GE248:=n3_;clear n0_ n1_ n2_ n3_;clear hb hbox hg)|((with_reducible refine gate_callee (f:=42) rfl ?_);refine goesL_ (some 11) rfl rfl Tryd.func42 (by kernel_rfl) rfl #[.int .i64 a1,.int .i64 a2] rfl (by (try simp only [List.map_toArray,List.map_cons,List.map_nil]);first|done|rfl|(simp only [List.length_drop,List.length_take];rfl)) ?_;(with_reducible refine (trestleref12_sizes.calls a1 a2 false _ A4.out).mono ?_);rintro e w' ⟨rfl,⟨nd,rfl⟩⟩;refine ⟨_,rfl,?_⟩))
  go_ret
  exact ⟨by first|rfl|(simp [errW_none,errW_some] <;> rfl)|(simp [*,errW_none,errW_some] <;> rfl),by repeat (first|(with_reducible first|exact HB.out|apply eA_|apply eN_|apply eD_|refine eS_ ?_ GE248.out)|exact HB.out)⟩
def trestlebook_SameBools.l0 : Nat → List Bool → List Bool → Int → Option (Bool)
 |0,_,_,_ => none
 |k + 1,x0,x1,x5 => if x5 < (x0.length : Int) then (if 0 ≤ x5 then (if x5 < (x1.length : Int) then (if ((rdOf false x0 x5) != (rdOf false x1 x5)) = true then (none) else (trestlebook_SameBools.l0 k x0 x1 (wrap64 (x5 + 1)))) else (none)) else (none)) else (some true)
def trestlebook_SameBools.f (k : Nat) (l0 : List Bool) (l1 : List Bool) : Option (Bool):=if (l0.length : Int) = (l1.length : Int) then (trestlebook_SameBools.l0 k l0 l1 0) else (none)
theorem trestlebook_SameBools.mono_l : ∀ k,(∀ y0 y1 y2,LeO (trestlebook_SameBools.l0 k y0 y1 y2) (trestlebook_SameBools.l0 (k + 1) y0 y1 y2))
 |0 => fun _ _ _ r h => by simp [trestlebook_SameBools.l0] at h
 |k + 1 => by
  have ih0:=trestlebook_SameBools.mono_l k
  ·intro y0 y1 y2
   unfold trestlebook_SameBools.l0
   repeat' first
   |(with_reducible exact ih0 _ _ _)
   |(with_reducible exact LeO.refl _)
   |(with_reducible exact LeO.none _)
   |(with_reducible refine LeO.ite ?_ ?_)
   |(with_reducible refine LeO.bind ?_ (fun _ => ?_))
   |exact ih0 _ _ _
   |exact LeO.none _
   |refine LeO.ite ?_ ?_
   |refine LeO.bind ?_ (fun _ => ?_)
theorem trestlebook_SameBools.mono : ∀ a0 a1 k,LeO (trestlebook_SameBools.f k a0 a1) (trestlebook_SameBools.f (k + 1) a0 a1):=by
 intro a0 a1 k
 have ih0:=trestlebook_SameBools.mono_l k
 unfold trestlebook_SameBools.f
 repeat' first
   |(with_reducible exact ih0 _ _ _)
   |(with_reducible exact LeO.refl _)
   |(with_reducible exact LeO.none _)
   |(with_reducible refine LeO.ite ?_ ?_)
   |(with_reducible refine LeO.bind ?_ (fun _ => ?_))
   |exact ih0 _ _ _
   |exact LeO.none _
   |refine LeO.ite ?_ ?_
   |refine LeO.bind ?_ (fun _ => ?_)
set_option maxHeartbeats 8000000 in
set_option maxRecDepth 100000 in
theorem trestlebook_SameBools.calls (k : Nat) (A0 : Option Addr) (c0 : Nat) (l0 : List Bool) (A1 : Option Addr) (c1 : Nat) (l1 : List Bool) (r : Bool) (w : World) (hr0 : Kd.C Kd.bool w A0 l0.length l0) (hc0 : l0.length ≤ c0) (hr1 : Kd.C Kd.bool w A1 l1.length l1) (hc1 : l1.length ≤ c1) (h : trestlebook_SameBools.f k l0 l1 = some r) :
  Calls Tryd.prog 72 #[.slice A0 l0.length c0,.slice A1 l1.length c1] w fun e w' => e = .returned (.bool r) ∧ Drawn0 w w':=by
 have HR0:=A0_.mk hr0
 have HC0:=A0_.mk hc0
 clear hr0 hc0
 have HR1:=A0_.mk hr1
 have HC1:=A0_.mk hc1
 clear hr1 hc1
 have H : (if (l0.length : Int) = (l1.length : Int) then (trestlebook_SameBools.l0 k l0 l1 0) else (none)) = some r:=h
 clear h
 by_cases c3 : (l0.length : Int) = (l1.length : Int)
 ·rw [if_pos c3] at H
  have c3b0 : ((l0.length : Int) == (l1.length : Int)) = true:=beq_iff_eq.mpr c3
  have c3b1 : ((l0.length : Int) != (l1.length : Int)) = false:=bne_eq_false_iff_eq.mpr c3
  have c3b2 : (l0.length == l1.length) = true:=by first|simpa using c3|(simp at c3 ⊢;omega)
  clear c3
  have H':=A0_.mk H
  clear H
  go_enter Tryd.func72,Tryd.ntmps72
  go_wp2
  repeat (go_quiet (fail);try go_wp2)
  (try simp only [Act.put,List.setIfInBounds_toArray,List.set_cons_zero,List.set_cons_succ])
  go_loopg [5] k (fun kq v5 w' => ∃ (x5_1 : Int),v5 = .int .i64 x5_1 ∧ A0_ (trestlebook_SameBools.l0 kq l0 l1 x5_1 = some r) ∧ A0_ (kq ≤ k) ∧ Drawn0 w w')
  case atStart => exact ⟨(0),(by first|rfl|(simp;done)|(simp [*];done)),H',⟨Nat.le_refl _⟩,by repeat (first|exact Drawn0.refl _|apply Drawn0.step)⟩
  case round =>
   clear H'
   try clear c1
   try clear p2
   try clear c3
   try clear c3b0
   try clear c3b1
   try clear c3b2
   obtain ⟨x5_1,rfl,HA,HK1,⟨m1,rfl⟩⟩:=hrel
   cases gk with
   |zero => exact absurd HA.out (by simp [trestlebook_SameBools.l0])
   |succ k1 =>
    have H:=HA.out
    clear HA
    simp only [trestlebook_SameBools.l0] at H
    by_cases c4 : x5_1 < (l0.length : Int)
    ·rw [if_pos c4] at H
     have c4b0 : decide (x5_1 < (l0.length : Int)) = true:=decide_eq_true c4
     clear c4
     by_cases c5 : 0 ≤ x5_1
     ·rw [if_pos c5] at H
      have c5b0 : decide (0 ≤ x5_1) = true:=decide_eq_true c5
      clear c5
      by_cases c6 : x5_1 < (l1.length : Int)
      ·rw [if_pos c6] at H
       have c6b0 : decide (x5_1 < (l1.length : Int)) = true:=decide_eq_true c6
       clear c6
       by_cases c7 : ((rdOf false l0 x5_1) != (rdOf false l1 x5_1)) = true
       ·rw [if_pos c7] at H
        exact absurd H (by simp)
       ·rw [if_neg c7] at H
        have c7b0 : ((rdOf false l0 x5_1) != (rdOf false l1 x5_1)) = false:=by simpa using c7
        (try (have c7b1 : decide ((rdOf false l0 x5_1) = (rdOf false l1 x5_1)) = true:=by simpa using c7))
        (try (have c7b2 : ((rdOf false l0 x5_1) == (rdOf false l1 x5_1)) = true:=by simpa using c7))
        clear c7
        have H':=A0_.mk H
        clear H
        have p254 : 0 ≤ (x5_1 : Int):=of_decide_eq_true (by first|(with_reducible assumption)|assumption)
        have q254 : x5_1 < (l0.length : Int):=of_decide_eq_true (by first|(with_reducible assumption)|assumption)
        obtain ⟨ad254,e254,hx254_0⟩:=Kd.at_bool HR0.out x5_1 p254 q254
        cases e254
        replace p254:=eq_true p254
        replace q254:=eq_true q254
        have p255 : 0 ≤ (x5_1 : Int):=of_decide_eq_true (by first|(with_reducible assumption)|assumption)
        have q255 : x5_1 < (l1.length : Int):=of_decide_eq_true (by first|(with_reducible assumption)|assumption)
        obtain ⟨ad255,e255,hx255_0⟩:=Kd.at_bool HR1.out x5_1 p255 q255
        cases e255
        replace p255:=eq_true p255
        replace q255:=eq_true q255
        go_wp2
        repeat (go_quiet (fail);try go_wp2)
        go_roundg k1
        case measure => have:=HK1.out;omega
        case rel => exact ⟨(wrap64 (x5_1 + 1)),(by first|rfl|(simp;done)|(simp [*];done)),H',⟨by have:=HK1.out;omega⟩,by repeat (first|exact Drawn0.refl _|apply Drawn0.step)⟩
      ·rw [if_neg c6] at H
       exact absurd H (by simp)
     ·rw [if_neg c5] at H
      exact absurd H (by simp)
    ·rw [if_neg c4] at H
     have c4b0 : decide (x5_1 < (l0.length : Int)) = false:=decide_eq_false c4
     clear c4
     obtain rfl:=Option.some.inj H
     go_wp2
     repeat (go_quiet (fail);try go_wp2)
     go_ret
     exact ⟨by first|rfl|(simp;done)|(simp [*];done),by repeat (first|exact Drawn0.refl _|apply Drawn0.step)⟩
 ·rw [if_neg c3] at H
  exact absurd H (by simp)
end Go.Proofs.YtojepjkpnponoaaDoor.Stim

