import Derived.Test.YtojepjkpnponoaaDoorBStim0
import Derived.Test.YtojepjkpnponoaaDoorBStim1
import Derived.Test.YtojepjkpnponoaaDoorBStim6
import Derived.Test.YtojepjkpnponoaaDoorBStim9
import Derived.Test.YtojepjkpnponoaaDoorBStim10
import Derived.Test.YtojepjkpnponoaaDoorBGV
import Derived.Test.YtojepjkpnponoaaDoorBGAll
import Derived.Test.YtojepjkpnponoaaDoorBGPrint
import Derived.Test.YtojepjkpnponoaaDoorBGRead
namespace Go.Proofs.YtojepjkpnponoaaDoor.Stim
open Go.RowKit Go.Proofs.YtojepjkpnponoaaDoorW.PrintWords Go.Proofs.YtojepjkpnponoaaDoorW.PrintLast Go.Proofs.YtojepjkpnponoaaDoorW.PrintMore
attribute [local go_sem] max2_int min2_int max_two min_two max_three min_three max_four min_four
set_option linter.unusedVariables false
set_option linter.unusedSimpArgs false
attribute [local go_sem high] eqA40
def trestlelaw12_StimBack.f (k : Nat) (a0_0 : Int) (l0_1 : List (S83)) (l0_2 : List Bool) (l0_3 : List (List Bool)) (a0_4 : Int) (a1_0 : Int) (a1_1 : Int) : Option (Bool):=(trestlelaw12_works.f k).bind fun t328 => (if t328 = true then ((stim_Check.f k a0_0 l0_1 l0_2 l0_3 a0_4 a1_0 a1_1).bind fun t329 => ((stim_Print.f a0_0 l0_1 l0_2 l0_3 a0_4 a1_0 a1_1).bind fun bt330 => (if bt330.2 = 0 then ((stim_Read.f bt330.1 a1_0 a1_1).bind fun bt332 => ((stim_All.f bt330.1 a1_0 a1_1).bind fun bt347 => (if t329 = 0 then (if (bt332.2.2.2.2.2.1 == 0 && (bt332.2.2.2.2.2.2 == 0)) = true then ((trestlelaw12_same.f k bt332.1 bt332.2.1 bt332.2.2.1 bt332.2.2.2.1 bt332.2.2.2.2.1 a0_0 l0_1 l0_2 l0_3 a0_4).bind fun t353 => (if t353 = true then (if (bt347.2.1 == 0 && (bt347.2.2 == 0)) = true then (if (bt347.1.length : Int) = 1 then (if 0 < (bt347.1.length : Int) then ((trestlelaw12_same.f k ((rd_T28 bt347.1 0).f0) ((rd_T28 bt347.1 0).f1) ((rd_T28 bt347.1 0).f2.f0) ((rd_T28 bt347.1 0).f2.f1) ((rd_T28 bt347.1 0).f2.f2) a0_0 l0_1 l0_2 l0_3 a0_4).bind fun t355 => (some t355)) else (none)) else (none)) else (none)) else (none))) else (none)) else (none)))) else (if bt330.1.toList = ([] : List UInt8) then (if t329 = bt330.2 then (some true) else (if t329 = 0 then (some (bt330.2 == 2)) else (none))) else (none))))) else (none))
def trestlelaw12_StimBack.T9 : Bool × List (List Nat × List Nat):=(true,[([],[]),([0],[0]),([1],[1]),([2],[2]),([2],[2]),([3,4,2],[2,3,4]),([2,5],[2,5]),([6,2],[6]),([7],[7]),([7],[7]),([8,9,7,7],[7,8,9]),([7,10],[7,10]),([11,10],[11]),([12],[12]),([12],[12]),([13,14,12],[12,13,14]),([12,15],[12,15]),([16,12],[16]),([17],[17]),([18,17],[17,18]),([19,17],[17,19]),([17,20],[17,20]),([21,17],[21]),([22],[22]),([23,22],[22,23]),([24,22],[22,24]),([22],[22]),([25,26,22,22],[22,25,26]),([22,27],[22,27]),([28,27,0,1,2,3,4,5,6,7,8,9,10,11,12,13,14,15,16,17,18,19,20,21,22,23,24,25,26,27,28],[28])])
def trestlelaw12_StimBack.B9 : List Nat:=[0,1,3,7,7,31,63,127,255,255,1023,2047,4095,8191,8191,32767,65535,131071,262143,524287,1048575,2097151,4194303,8388607,16777215,33554431,8388607,134217727,268435455,536870911]
theorem trestlelaw12_StimBack.tab9 : rtab .any (opsOf Tryd.f4 9) = trestlelaw12_StimBack.T9:=by kernel_rfl
theorem trestlelaw12_StimBack.bits9 : waitsOk trestlelaw12_StimBack.T9.2 trestlelaw12_StimBack.B9 = true:=by kernel_rfl
set_option maxHeartbeats 8000000 in
set_option maxRecDepth 100000 in
theorem trestlelaw12_StimBack.calls (k : Nat) (a0_0 : Int) (A0_1 : Option Addr) (c0_1 : Nat) (l0_1 : List (S83)) (A0_2 : Option Addr) (c0_2 : Nat) (l0_2 : List Bool) (A0_3 : Option Addr) (c0_3 : Nat) (l0_3 : List (List Bool)) (a0_4 : Int) (a1_0 : Int) (a1_1 : Int) (r : Bool) (w : World) (hG : GV w) (hr0_1 : Kd.C k83 w A0_1 l0_1.length l0_1) (hc0_1 : l0_1.length ≤ c0_1) (hr0_2 : Kd.C Kd.bool w A0_2 l0_2.length l0_2) (hc0_2 : l0_2.length ≤ c0_2) (hr0_3 : Kd.C (Kd.slice 4 Kd.bool) w A0_3 l0_3.length l0_3) (hc0_3 : l0_3.length ≤ c0_3) (h : trestlelaw12_StimBack.f k a0_0 l0_1 l0_2 l0_3 a0_4 a1_0 a1_1 = some r) :
  Calls Tryd.prog 4 #[.agg #[.int .i64 a0_0,.slice A0_1 l0_1.length c0_1,.slice A0_2 l0_2.length c0_2,.slice A0_3 l0_3.length c0_3,.int .i64 a0_4],.agg #[.int .i64 a1_0,.int .i64 a1_1]] w fun e w' => e = .returned (.bool r) ∧ Below w.heap.size w w':=by
 have hu28:=Tryd.underlying28
 have hu30:=Tryd.underlying30
 have hu40:=Tryd.underlying40
 have HR0_1:=A0_.mk hr0_1
 have HC0_1:=A0_.mk hc0_1
 clear hr0_1 hc0_1
 have HR0_2:=A0_.mk hr0_2
 have HC0_2:=A0_.mk hc0_2
 clear hr0_2 hc0_2
 have HR0_3:=A0_.mk hr0_3
 have HC0_3:=A0_.mk hc0_3
 clear hr0_3 hc0_3
 have HG:=A0_.mk hG
 clear hG
 have HB:=A0_.mk (Below.refl w.heap.size w)
 have H : ((trestlelaw12_works.f k).bind fun t328 => (if t328 = true then ((stim_Check.f k a0_0 l0_1 l0_2 l0_3 a0_4 a1_0 a1_1).bind fun t329 => ((stim_Print.f a0_0 l0_1 l0_2 l0_3 a0_4 a1_0 a1_1).bind fun bt330 => (if bt330.2 = 0 then ((stim_Read.f bt330.1 a1_0 a1_1).bind fun bt332 => ((stim_All.f bt330.1 a1_0 a1_1).bind fun bt347 => (if t329 = 0 then (if (bt332.2.2.2.2.2.1 == 0 && (bt332.2.2.2.2.2.2 == 0)) = true then ((trestlelaw12_same.f k bt332.1 bt332.2.1 bt332.2.2.1 bt332.2.2.2.1 bt332.2.2.2.2.1 a0_0 l0_1 l0_2 l0_3 a0_4).bind fun t353 => (if t353 = true then (if (bt347.2.1 == 0 && (bt347.2.2 == 0)) = true then (if (bt347.1.length : Int) = 1 then (if 0 < (bt347.1.length : Int) then ((trestlelaw12_same.f k ((rd_T28 bt347.1 0).f0) ((rd_T28 bt347.1 0).f1) ((rd_T28 bt347.1 0).f2.f0) ((rd_T28 bt347.1 0).f2.f1) ((rd_T28 bt347.1 0).f2.f2) a0_0 l0_1 l0_2 l0_3 a0_4).bind fun t355 => (some t355)) else (none)) else (none)) else (none)) else (none))) else (none)) else (none)))) else (if bt330.1.toList = ([] : List UInt8) then (if t329 = bt330.2 then (some true) else (if t329 = 0 then (some (bt330.2 == 2)) else (none))) else (none))))) else (none))) = some r:=h
 clear h
 replace H:=Option.bind_eq_some_iff.mp H
 obtain ⟨t328,A30,H⟩:=H
 replace H : (if t328 = true then ((stim_Check.f k a0_0 l0_1 l0_2 l0_3 a0_4 a1_0 a1_1).bind fun t329 => ((stim_Print.f a0_0 l0_1 l0_2 l0_3 a0_4 a1_0 a1_1).bind fun bt330 => (if bt330.2 = 0 then ((stim_Read.f bt330.1 a1_0 a1_1).bind fun bt332 => ((stim_All.f bt330.1 a1_0 a1_1).bind fun bt347 => (if t329 = 0 then (if (bt332.2.2.2.2.2.1 == 0 && (bt332.2.2.2.2.2.2 == 0)) = true then ((trestlelaw12_same.f k bt332.1 bt332.2.1 bt332.2.2.1 bt332.2.2.2.1 bt332.2.2.2.2.1 a0_0 l0_1 l0_2 l0_3 a0_4).bind fun t353 => (if t353 = true then (if (bt347.2.1 == 0 && (bt347.2.2 == 0)) = true then (if (bt347.1.length : Int) = 1 then (if 0 < (bt347.1.length : Int) then ((trestlelaw12_same.f k ((rd_T28 bt347.1 0).f0) ((rd_T28 bt347.1 0).f1) ((rd_T28 bt347.1 0).f2.f0) ((rd_T28 bt347.1 0).f2.f1) ((rd_T28 bt347.1 0).f2.f2) a0_0 l0_1 l0_2 l0_3 a0_4).bind fun t355 => (some t355)) else (none)) else (none)) else (none)) else (none))) else (none)) else (none)))) else (if bt330.1.toList = ([] : List UInt8) then (if t329 = bt330.2 then (some true) else (if t329 = 0 then (some (bt330.2 == 2)) else (none))) else (none))))) else (none)) = some r:=H
 have A3:=A0_.mk A30
 clear A30
 by_cases c4 : t328 = true
 ·subst c4
  have H1 : ((stim_Check.f k a0_0 l0_1 l0_2 l0_3 a0_4 a1_0 a1_1).bind fun t329 => ((stim_Print.f a0_0 l0_1 l0_2 l0_3 a0_4 a1_0 a1_1).bind fun bt330 => (if bt330.2 = 0 then ((stim_Read.f bt330.1 a1_0 a1_1).bind fun bt332 => ((stim_All.f bt330.1 a1_0 a1_1).bind fun bt347 => (if t329 = 0 then (if (bt332.2.2.2.2.2.1 == 0 && (bt332.2.2.2.2.2.2 == 0)) = true then ((trestlelaw12_same.f k bt332.1 bt332.2.1 bt332.2.2.1 bt332.2.2.2.1 bt332.2.2.2.2.1 a0_0 l0_1 l0_2 l0_3 a0_4).bind fun t353 => (if t353 = true then (if (bt347.2.1 == 0 && (bt347.2.2 == 0)) = true then (if (bt347.1.length : Int) = 1 then (if 0 < (bt347.1.length : Int) then ((trestlelaw12_same.f k ((rd_T28 bt347.1 0).f0) ((rd_T28 bt347.1 0).f1) ((rd_T28 bt347.1 0).f2.f0) ((rd_T28 bt347.1 0).f2.f1) ((rd_T28 bt347.1 0).f2.f2) a0_0 l0_1 l0_2 l0_3 a0_4).bind fun t355 => (some t355)) else (none)) else (none)) else (none)) else (none))) else (none)) else (none)))) else (if bt330.1.toList = ([] : List UInt8) then (if t329 = bt330.2 then (some true) else (if t329 = 0 then (some (bt330.2 == 2)) else (none))) else (none))))) = some r:=by rw [if_pos rfl] at H;exact H
  clear H
  have H:=H1
  clear H1
  replace H:=Option.bind_eq_some_iff.mp H
  obtain ⟨t329,A50,H⟩:=H
  replace H : ((stim_Print.f a0_0 l0_1 l0_2 l0_3 a0_4 a1_0 a1_1).bind fun bt330 => (if bt330.2 = 0 then ((stim_Read.f bt330.1 a1_0 a1_1).bind fun bt332 => ((stim_All.f bt330.1 a1_0 a1_1).bind fun bt347 => (if t329 = 0 then (if (bt332.2.2.2.2.2.1 == 0 && (bt332.2.2.2.2.2.2 == 0)) = true then ((trestlelaw12_same.f k bt332.1 bt332.2.1 bt332.2.2.1 bt332.2.2.2.1 bt332.2.2.2.2.1 a0_0 l0_1 l0_2 l0_3 a0_4).bind fun t353 => (if t353 = true then (if (bt347.2.1 == 0 && (bt347.2.2 == 0)) = true then (if (bt347.1.length : Int) = 1 then (if 0 < (bt347.1.length : Int) then ((trestlelaw12_same.f k ((rd_T28 bt347.1 0).f0) ((rd_T28 bt347.1 0).f1) ((rd_T28 bt347.1 0).f2.f0) ((rd_T28 bt347.1 0).f2.f1) ((rd_T28 bt347.1 0).f2.f2) a0_0 l0_1 l0_2 l0_3 a0_4).bind fun t355 => (some t355)) else (none)) else (none)) else (none)) else (none))) else (none)) else (none)))) else (if bt330.1.toList = ([] : List UInt8) then (if t329 = bt330.2 then (some true) else (if t329 = 0 then (some (bt330.2 == 2)) else (none))) else (none)))) = some r:=H
  have A5:=A0_.mk A50
  clear A50
  replace H:=Option.bind_eq_some_iff.mp H
  obtain ⟨⟨t330,t331⟩,A60,H⟩:=H
  replace H : (if t331 = 0 then ((stim_Read.f t330 a1_0 a1_1).bind fun bt332 => ((stim_All.f t330 a1_0 a1_1).bind fun bt347 => (if t329 = 0 then (if (bt332.2.2.2.2.2.1 == 0 && (bt332.2.2.2.2.2.2 == 0)) = true then ((trestlelaw12_same.f k bt332.1 bt332.2.1 bt332.2.2.1 bt332.2.2.2.1 bt332.2.2.2.2.1 a0_0 l0_1 l0_2 l0_3 a0_4).bind fun t353 => (if t353 = true then (if (bt347.2.1 == 0 && (bt347.2.2 == 0)) = true then (if (bt347.1.length : Int) = 1 then (if 0 < (bt347.1.length : Int) then ((trestlelaw12_same.f k ((rd_T28 bt347.1 0).f0) ((rd_T28 bt347.1 0).f1) ((rd_T28 bt347.1 0).f2.f0) ((rd_T28 bt347.1 0).f2.f1) ((rd_T28 bt347.1 0).f2.f2) a0_0 l0_1 l0_2 l0_3 a0_4).bind fun t355 => (some t355)) else (none)) else (none)) else (none)) else (none))) else (none)) else (none)))) else (if t330.toList = ([] : List UInt8) then (if t329 = t331 then (some true) else (if t329 = 0 then (some (t331 == 2)) else (none))) else (none))) = some r:=H
  have A6:=A0_.mk A60
  clear A60
  by_cases c7 : t331 = 0
  ·rw [if_pos c7] at H
   have c7b0 : (t331 == 0) = true:=beq_iff_eq.mpr c7
   have c7b1 : (t331 != 0) = false:=bne_eq_false_iff_eq.mpr c7
   clear c7
   replace H:=Option.bind_eq_some_iff.mp H
   obtain ⟨⟨t332,t333,t336,t339,t342,t343,t344⟩,A80,H⟩:=H
   replace H : ((stim_All.f t330 a1_0 a1_1).bind fun bt347 => (if t329 = 0 then (if (t343 == 0 && (t344 == 0)) = true then ((trestlelaw12_same.f k t332 t333 t336 t339 t342 a0_0 l0_1 l0_2 l0_3 a0_4).bind fun t353 => (if t353 = true then (if (bt347.2.1 == 0 && (bt347.2.2 == 0)) = true then (if (bt347.1.length : Int) = 1 then (if 0 < (bt347.1.length : Int) then ((trestlelaw12_same.f k ((rd_T28 bt347.1 0).f0) ((rd_T28 bt347.1 0).f1) ((rd_T28 bt347.1 0).f2.f0) ((rd_T28 bt347.1 0).f2.f1) ((rd_T28 bt347.1 0).f2.f2) a0_0 l0_1 l0_2 l0_3 a0_4).bind fun t355 => (some t355)) else (none)) else (none)) else (none)) else (none))) else (none)) else (none))) = some r:=H
   have A8:=A0_.mk A80
   clear A80
   replace H:=Option.bind_eq_some_iff.mp H
   obtain ⟨⟨t347,t350,t351⟩,A90,H⟩:=H
   replace H : (if t329 = 0 then (if (t343 == 0 && (t344 == 0)) = true then ((trestlelaw12_same.f k t332 t333 t336 t339 t342 a0_0 l0_1 l0_2 l0_3 a0_4).bind fun t353 => (if t353 = true then (if (t350 == 0 && (t351 == 0)) = true then (if (t347.length : Int) = 1 then (if 0 < (t347.length : Int) then ((trestlelaw12_same.f k ((rd_T28 t347 0).f0) ((rd_T28 t347 0).f1) ((rd_T28 t347 0).f2.f0) ((rd_T28 t347 0).f2.f1) ((rd_T28 t347 0).f2.f2) a0_0 l0_1 l0_2 l0_3 a0_4).bind fun t355 => (some t355)) else (none)) else (none)) else (none)) else (none))) else (none)) else (none)) = some r:=H
   have A9:=A0_.mk A90
   clear A90
   by_cases c10 : t329 = 0
   ·rw [if_pos c10] at H
    have c10b0 : (t329 == 0) = true:=beq_iff_eq.mpr c10
    have c10b1 : (t329 != 0) = false:=bne_eq_false_iff_eq.mpr c10
    clear c10
    by_cases c11 : (t343 == 0 && (t344 == 0)) = true
    ·rw [if_pos c11] at H
     have c11b0 : (t343 == 0 && (t344 == 0)) = true:=c11
     (try (have c11b1 : decide (t343 = 0 && (t344 == 0)) = true:=by simpa using c11))
     (try (have c11b2 : (t343 == 0 && (t344 == 0)) = true:=by simpa using c11))
     clear c11
     replace H:=Option.bind_eq_some_iff.mp H
     obtain ⟨t353,A120,H⟩:=H
     replace H : (if t353 = true then (if (t350 == 0 && (t351 == 0)) = true then (if (t347.length : Int) = 1 then (if 0 < (t347.length : Int) then ((trestlelaw12_same.f k ((rd_T28 t347 0).f0) ((rd_T28 t347 0).f1) ((rd_T28 t347 0).f2.f0) ((rd_T28 t347 0).f2.f1) ((rd_T28 t347 0).f2.f2) a0_0 l0_1 l0_2 l0_3 a0_4).bind fun t355 => (some t355)) else (none)) else (none)) else (none)) else (none)) = some r:=H
     have A12:=A0_.mk A120
     clear A120
     by_cases c13 : t353 = true
     ·subst c13
      have H1 : (if (t350 == 0 && (t351 == 0)) = true then (if (t347.length : Int) = 1 then (if 0 < (t347.length : Int) then ((trestlelaw12_same.f k ((rd_T28 t347 0).f0) ((rd_T28 t347 0).f1) ((rd_T28 t347 0).f2.f0) ((rd_T28 t347 0).f2.f1) ((rd_T28 t347 0).f2.f2) a0_0 l0_1 l0_2 l0_3 a0_4).bind fun t355 => (some t355)) else (none)) else (none)) else (none)) = some r:=by rw [if_pos rfl] at H;exact H
      clear H
      have H:=H1
      clear H1
      by_cases c14 : (t350 == 0 && (t351 == 0)) = true
      ·rw [if_pos c14] at H
       have c14b0 : (t350 == 0 && (t351 == 0)) = true:=c14
       (try (have c14b1 : decide (t350 = 0 && (t351 == 0)) = true:=by simpa using c14))
       (try (have c14b2 : (t350 == 0 && (t351 == 0)) = true:=by simpa using c14))
       clear c14
       by_cases c15 : (t347.length : Int) = 1
       ·rw [if_pos c15] at H
        have c15b0 : ((t347.length : Int) == 1) = true:=beq_iff_eq.mpr c15
        have c15b1 : ((t347.length : Int) != 1) = false:=bne_eq_false_iff_eq.mpr c15
        clear c15
        by_cases c16 : 0 < (t347.length : Int)
        ·rw [if_pos c16] at H
         have c16b0 : decide (0 < (t347.length : Int)) = true:=decide_eq_true c16
         have c16b1 : decide (0 < t347.length) = true:=decide_eq_true (by omega)
         have c16b2 : 0 < t347.length:=by omega
         clear c16
         replace H:=Option.bind_eq_some_iff.mp H
         obtain ⟨t355,A170,H⟩:=H
         replace H : (some t355) = some r:=H
         have A17:=A0_.mk A170
         clear A170
         obtain rfl:=Option.some.inj H
         go_enter Tryd.func4,Tryd.ntmps4
         try go_wp2_with (first|((with_reducible refine gate_dst (N:=2) rfl ?_);(try (refine gate_guard (by rfl) ?_;dsimp only));refine box_event ?hg (N:=2) ?hd (cs:=#[.int .i64 a0_0,.slice A0_1 l0_1.length c0_1,.slice A0_2 l0_2.length c0_2,.slice A0_3 l0_3.length c0_3,.int .i64 a0_4]) (t:=28) ?hr ?_;(case hd => rfl);(case hg => rfl);(case hr => first|(go_simp;done)|(go_simp;rfl));intro gb326 hg w18 hbox hb;have n0_:=A0_.mk (below_step (by repeat (first|(with_reducible first|exact HB.out|apply eA_|apply eN_|apply eD_)|exact HB.out)) hb);have n1_:=A0_.mk (hbox);have n2_:=A0_.mk ((by rw [hg];exact (below_size (by repeat (first|(with_reducible first|exact HB.out|apply eA_|apply eN_|apply eD_)|exact HB.out))) : w.heap.size ≤ gb326));have n3_:=A0_.mk ((by rw [hg];exact (below_size (by repeat (first|(with_reducible first|exact HB.out|apply eA_|apply eN_|apply eD_)|exact HB.out))) : w.heap.size ≤ gb326));clear HB;have HB:=n0_;have BK326:=n1_;have GW326:=n2_;have GE326:=n3_;clear n0_ n1_ n2_ n3_;clear hb hbox hg)|((with_reducible refine gate_dst (N:=3) rfl ?_);(try (refine gate_guard (by rfl) ?_;dsimp only));refine box_event ?hg (N:=3) ?hd (cs:=#[.int .i64 a1_0,.int .i64 a1_1]) (t:=30) ?hr ?_;(case hd => rfl);(case hg => rfl);(case hr => first|(go_simp;done)|(go_simp;rfl));intro gb327 hg w19 hbox hb;have n0_:=A0_.mk (blk_below (g:=gb326) (o:=.cells #[.int .i64 a0_0,.slice A0_1 l0_1.length c0_1,.slice A0_2 l0_2.length c0_2,.slice A0_3 l0_3.length c0_3,.int .i64 a0_4] 28 (0,0)) (by (with_reducible repeat (first|refine bN_ ?_ _|refine bD_ ?_|refine bA_ ?_ _));exact BK326.out) hb);have n1_:=A0_.mk (below_step (by repeat (first|(with_reducible first|exact HB.out|apply eA_|apply eN_|apply eD_|refine eS_ ?_ GE326.out)|exact HB.out)) hb);have n2_:=A0_.mk (hbox);have n3_:=A0_.mk ((by rw [hg];exact (below_size (by repeat (first|(with_reducible first|exact HB.out|apply eA_|apply eN_|apply eD_|refine eS_ ?_ GE326.out)|exact HB.out))) : w.heap.size ≤ gb327));have n4_:=A0_.mk ((by rw [hg];exact (below_size (by repeat (first|(with_reducible first|exact HB.out|apply eA_|apply eN_|apply eD_|refine eS_ ?_ GE326.out)|exact HB.out))) : w.heap.size ≤ gb327));have n5_:=A0_.mk ((by rw [hg];exact Nat.ne_of_lt (blk_lt (g:=gb326) (o:=.cells #[.int .i64 a0_0,.slice A0_1 l0_1.length c0_1,.slice A0_2 l0_2.length c0_2,.slice A0_3 l0_3.length c0_3,.int .i64 a0_4] 28 (0,0)) (by (with_reducible repeat (first|refine bN_ ?_ _|refine bD_ ?_|refine bA_ ?_ _));exact BK326.out)) : gb326 ≠ gb327));have n6_:=A0_.mk ((by rw [hg];exact Nat.ne_of_gt (blk_lt (g:=gb326) (o:=.cells #[.int .i64 a0_0,.slice A0_1 l0_1.length c0_1,.slice A0_2 l0_2.length c0_2,.slice A0_3 l0_3.length c0_3,.int .i64 a0_4] 28 (0,0)) (by (with_reducible repeat (first|refine bN_ ?_ _|refine bD_ ?_|refine bA_ ?_ _));exact BK326.out)) : gb327 ≠ gb326));clear BK326;clear HB;have BK326:=n0_;have HB:=n1_;have BK327:=n2_;have GW327:=n3_;have GE327:=n4_;have NB326_327:=n5_;have NB327_326:=n6_;clear n0_ n1_ n2_ n3_ n4_ n5_ n6_;clear hb hbox hg)|((with_reducible refine gate_callee (f:=18) rfl ?_);refine goesL_ (some 12) rfl rfl Tryd.func18 (by kernel_rfl) rfl #[] rfl (by (try simp only [List.map_toArray,List.map_cons,List.map_nil]);first|done|rfl|(simp only [List.length_drop,List.length_take];rfl)) ?_;(with_reducible refine (trestlelaw12_works.calls k  true _ ?side1 A3.out).mono ?_);(case side1 => exact GV_below HG.out (by repeat (first|(with_reducible first|exact HB.out|apply eA_|apply eN_|apply eD_|refine eS_ ?_ GE326.out|refine eS_ ?_ GE327.out)|exact HB.out)));rintro e w20 ⟨rfl,hb⟩;refine ⟨_,rfl,?_⟩;have n0_:=A0_.mk (blk_below (g:=gb326) (o:=.cells #[.int .i64 a0_0,.slice A0_1 l0_1.length c0_1,.slice A0_2 l0_2.length c0_2,.slice A0_3 l0_3.length c0_3,.int .i64 a0_4] 28 (0,0)) (by (with_reducible repeat (first|refine bN_ ?_ _|refine bD_ ?_|refine bA_ ?_ _));exact BK326.out) hb);have n1_:=A0_.mk (blk_below (g:=gb327) (o:=.cells #[.int .i64 a1_0,.int .i64 a1_1] 30 (0,0)) (by (with_reducible repeat (first|refine bN_ ?_ _|refine bD_ ?_|refine bA_ ?_ _));exact BK327.out) hb);have n2_:=A0_.mk (below_step (by repeat (first|(with_reducible first|exact HB.out|apply eA_|apply eN_|apply eD_|refine eS_ ?_ GE326.out|refine eS_ ?_ GE327.out)|exact HB.out)) hb);clear BK326;clear BK327;clear HB;have BK326:=n0_;have BK327:=n1_;have HB:=n2_;clear n0_ n1_ n2_;(try clear hb);(try clear hb2);(try clear hk);(try clear hi);have hnb21:=NB326_327.out;have hnc21:=NB327_326.out;have hcz22_0 : w20.cell? ⟨gb326,0,none⟩ = some (.int .i64 a0_0):=(bC_ BK326.out 0).trans rfl;have hcz22_1 : w20.cell? ⟨gb326,1,none⟩ = some (.slice A0_1 l0_1.length c0_1):=(bC_ BK326.out 1).trans rfl;have hcz22_2 : w20.cell? ⟨gb326,2,none⟩ = some (.slice A0_2 l0_2.length c0_2):=(bC_ BK326.out 2).trans rfl;have hcz22_3 : w20.cell? ⟨gb326,3,none⟩ = some (.slice A0_3 l0_3.length c0_3):=(bC_ BK326.out 3).trans rfl;have hcz22_4 : w20.cell? ⟨gb326,4,none⟩ = some (.int .i64 a0_4):=(bC_ BK326.out 4).trans rfl;have hfz22_0:=bF_ BK326.out 0;have hfz22_1:=bF_ BK326.out 1;have hfz22_2:=bF_ BK326.out 2;have hfz22_3:=bF_ BK326.out 3;have hfz22_4:=bF_ BK326.out 4;have hcz23_0 : w20.cell? ⟨gb327,0,none⟩ = some (.int .i64 a1_0):=(bC_ BK327.out 0).trans rfl;have hcz23_1 : w20.cell? ⟨gb327,1,none⟩ = some (.int .i64 a1_1):=(bC_ BK327.out 1).trans rfl;have hfz23_0:=bF_ BK327.out 0;have hfz23_1:=bF_ BK327.out 1)|((with_reducible refine gate_callee (f:=15) rfl ?_);refine goesL_ (some 19) rfl rfl Tryd.func15 (by kernel_rfl) rfl #[.agg #[.int .i64 a0_0,.slice A0_1 l0_1.length c0_1,.slice A0_2 l0_2.length c0_2,.slice A0_3 l0_3.length c0_3,.int .i64 a0_4],.int .i64 a1_0,.int .i64 a1_1] rfl (by (try simp only [List.map_toArray,List.map_cons,List.map_nil]);first|done|rfl|(simp only [List.length_drop,List.length_take];rfl)) ?_;(with_reducible refine (stim_Check.calls k a0_0 _ _ l0_1 _ _ l0_2 _ _ l0_3 a0_4 a1_0 a1_1 t329 _ ?side1 ?side2 ?side3 ?side4 ?side5 ?side6 A5.out).mono ?_);(case side1 => repeat (first|exact (Kd.C_below HR0_1.out HB.out)|(with_reducible refine Kd.C_alloc ?_ _)|(with_reducible refine Kd.C_drewN ?_ _)|(with_reducible refine Kd.C_drew ?_)));(case side2 => exact HC0_1.out);(case side3 => repeat (first|exact (Kd.C_below HR0_2.out HB.out)|(with_reducible refine Kd.C_alloc ?_ _)|(with_reducible refine Kd.C_drewN ?_ _)|(with_reducible refine Kd.C_drew ?_)));(case side4 => exact HC0_2.out);(case side5 => repeat (first|exact (Kd.C_below HR0_3.out HB.out)|(with_reducible refine Kd.C_alloc ?_ _)|(with_reducible refine Kd.C_drewN ?_ _)|(with_reducible refine Kd.C_drew ?_)));(case side6 => exact HC0_3.out);rintro e w24 ⟨rfl,hb⟩;refine ⟨_,rfl,?_⟩;have n0_:=A0_.mk (blk_below (g:=gb326) (o:=.cells #[.int .i64 a0_0,.slice A0_1 l0_1.length c0_1,.slice A0_2 l0_2.length c0_2,.slice A0_3 l0_3.length c0_3,.int .i64 a0_4] 28 (0,0)) (by (with_reducible repeat (first|refine bN_ ?_ _|refine bD_ ?_|refine bA_ ?_ _));exact BK326.out) hb);have n1_:=A0_.mk (blk_below (g:=gb327) (o:=.cells #[.int .i64 a1_0,.int .i64 a1_1] 30 (0,0)) (by (with_reducible repeat (first|refine bN_ ?_ _|refine bD_ ?_|refine bA_ ?_ _));exact BK327.out) hb);have n2_:=A0_.mk (below_step (by repeat (first|(with_reducible first|exact HB.out|apply eA_|apply eN_|apply eD_|refine eS_ ?_ GE326.out|refine eS_ ?_ GE327.out)|exact HB.out)) hb);clear BK326;clear BK327;clear HB;have BK326:=n0_;have BK327:=n1_;have HB:=n2_;clear n0_ n1_ n2_;(try clear hb);(try clear hb2);(try clear hk);(try clear hi);have hcz25_0 : w24.cell? ⟨gb326,0,none⟩ = some (.int .i64 a0_0):=(bC_ BK326.out 0).trans rfl;have hcz25_1 : w24.cell? ⟨gb326,1,none⟩ = some (.slice A0_1 l0_1.length c0_1):=(bC_ BK326.out 1).trans rfl;have hcz25_2 : w24.cell? ⟨gb326,2,none⟩ = some (.slice A0_2 l0_2.length c0_2):=(bC_ BK326.out 2).trans rfl;have hcz25_3 : w24.cell? ⟨gb326,3,none⟩ = some (.slice A0_3 l0_3.length c0_3):=(bC_ BK326.out 3).trans rfl;have hcz25_4 : w24.cell? ⟨gb326,4,none⟩ = some (.int .i64 a0_4):=(bC_ BK326.out 4).trans rfl;have hfz25_0:=bF_ BK326.out 0;have hfz25_1:=bF_ BK326.out 1;have hfz25_2:=bF_ BK326.out 2;have hfz25_3:=bF_ BK326.out 3;have hfz25_4:=bF_ BK326.out 4;have hcz26_0 : w24.cell? ⟨gb327,0,none⟩ = some (.int .i64 a1_0):=(bC_ BK327.out 0).trans rfl;have hcz26_1 : w24.cell? ⟨gb327,1,none⟩ = some (.int .i64 a1_1):=(bC_ BK327.out 1).trans rfl;have hfz26_0:=bF_ BK327.out 0;have hfz26_1:=bF_ BK327.out 1)|((with_reducible refine gate_callee (f:=13) rfl ?_);refine goesL_ (some 26) rfl rfl Tryd.func13 (by kernel_rfl) rfl #[.agg #[.int .i64 a0_0,.slice A0_1 l0_1.length c0_1,.slice A0_2 l0_2.length c0_2,.slice A0_3 l0_3.length c0_3,.int .i64 a0_4],.int .i64 a1_0,.int .i64 a1_1] rfl (by (try simp only [List.map_toArray,List.map_cons,List.map_nil]);first|done|rfl|(simp only [List.length_drop,List.length_take];rfl)) ?_;(with_reducible refine (stim_Print.calls a0_0 _ _ l0_1 _ _ l0_2 _ _ l0_3 a0_4 a1_0 a1_1 t330 t331 _ ?side7 ?side1 ?side2 ?side3 ?side4 ?side5 ?side6 A6.out).mono ?_);(case side1 => repeat (first|exact (Kd.C_below HR0_1.out HB.out)|(with_reducible refine Kd.C_alloc ?_ _)|(with_reducible refine Kd.C_drewN ?_ _)|(with_reducible refine Kd.C_drew ?_)));(case side2 => exact HC0_1.out);(case side3 => repeat (first|exact (Kd.C_below HR0_2.out HB.out)|(with_reducible refine Kd.C_alloc ?_ _)|(with_reducible refine Kd.C_drewN ?_ _)|(with_reducible refine Kd.C_drew ?_)));(case side4 => exact HC0_2.out);(case side5 => repeat (first|exact (Kd.C_below HR0_3.out HB.out)|(with_reducible refine Kd.C_alloc ?_ _)|(with_reducible refine Kd.C_drewN ?_ _)|(with_reducible refine Kd.C_drew ?_)));(case side6 => exact HC0_3.out);(case side7 => exact GV_below HG.out (by repeat (first|(with_reducible first|exact HB.out|apply eA_|apply eN_|apply eD_|refine eS_ ?_ GE326.out|refine eS_ ?_ GE327.out)|exact HB.out)));rintro e w27 ⟨rfl,hb⟩;refine ⟨_,rfl,?_⟩;have n0_:=A0_.mk (blk_below (g:=gb326) (o:=.cells #[.int .i64 a0_0,.slice A0_1 l0_1.length c0_1,.slice A0_2 l0_2.length c0_2,.slice A0_3 l0_3.length c0_3,.int .i64 a0_4] 28 (0,0)) (by (with_reducible repeat (first|refine bN_ ?_ _|refine bD_ ?_|refine bA_ ?_ _));exact BK326.out) hb);have n1_:=A0_.mk (blk_below (g:=gb327) (o:=.cells #[.int .i64 a1_0,.int .i64 a1_1] 30 (0,0)) (by (with_reducible repeat (first|refine bN_ ?_ _|refine bD_ ?_|refine bA_ ?_ _));exact BK327.out) hb);have n2_:=A0_.mk (below_step (by repeat (first|(with_reducible first|exact HB.out|apply eA_|apply eN_|apply eD_|refine eS_ ?_ GE326.out|refine eS_ ?_ GE327.out)|exact HB.out)) hb);clear BK326;clear BK327;clear HB;have BK326:=n0_;have BK327:=n1_;have HB:=n2_;clear n0_ n1_ n2_;(try clear hb);(try clear hb2);(try clear hk);(try clear hi);have hcz28_0 : w27.cell? ⟨gb327,0,none⟩ = some (.int .i64 a1_0):=(bC_ BK327.out 0).trans rfl;have hcz28_1 : w27.cell? ⟨gb327,1,none⟩ = some (.int .i64 a1_1):=(bC_ BK327.out 1).trans rfl;have hfz28_0:=bF_ BK327.out 0;have hfz28_1:=bF_ BK327.out 1)|((with_reducible refine gate_callee (f:=19) rfl ?_);refine goesL_ (some 52) rfl rfl Tryd.func19 (by kernel_rfl) rfl #[.string t330,.int .i64 a1_0,.int .i64 a1_1] rfl (by (try simp only [List.map_toArray,List.map_cons,List.map_nil]);first|done|rfl|(simp only [List.length_drop,List.length_take];rfl)) ?_;(with_reducible refine (stim_Read.calls t330 a1_0 a1_1 t332 t333 t336 t339 t342 t343 t344 _ ?side1 A8.out).mono ?_);(case side1 => exact GV_below HG.out (by repeat (first|(with_reducible first|exact HB.out|apply eA_|apply eN_|apply eD_|refine eS_ ?_ GE326.out|refine eS_ ?_ GE327.out)|exact HB.out)));rintro e w29 ⟨v334,v337,v340,rfl,ho0,ho1,ho2,hb⟩;refine ⟨_,rfl,?_⟩;have n0_:=A0_.mk (Kd.R_lower ho0 (below_size (by repeat (first|(with_reducible first|exact HB.out|apply eA_|apply eN_|apply eD_|refine eS_ ?_ GE326.out|refine eS_ ?_ GE327.out)|exact HB.out))));have n1_:=A0_.mk (Kd.R_lower ho1 (below_size (by repeat (first|(with_reducible first|exact HB.out|apply eA_|apply eN_|apply eD_|refine eS_ ?_ GE326.out|refine eS_ ?_ GE327.out)|exact HB.out))));have n2_:=A0_.mk (Kd.S_lower ho2 (below_size (by repeat (first|(with_reducible first|exact HB.out|apply eA_|apply eN_|apply eD_|refine eS_ ?_ GE326.out|refine eS_ ?_ GE327.out)|exact HB.out))));have n3_:=A0_.mk (blk_below (g:=gb326) (o:=.cells #[.int .i64 a0_0,.slice A0_1 l0_1.length c0_1,.slice A0_2 l0_2.length c0_2,.slice A0_3 l0_3.length c0_3,.int .i64 a0_4] 28 (0,0)) (by (with_reducible repeat (first|refine bN_ ?_ _|refine bD_ ?_|refine bA_ ?_ _));exact BK326.out) hb);have n4_:=A0_.mk (blk_below (g:=gb327) (o:=.cells #[.int .i64 a1_0,.int .i64 a1_1] 30 (0,0)) (by (with_reducible repeat (first|refine bN_ ?_ _|refine bD_ ?_|refine bA_ ?_ _));exact BK327.out) hb);have n5_:=A0_.mk (below_step (by repeat (first|(with_reducible first|exact HB.out|apply eA_|apply eN_|apply eD_|refine eS_ ?_ GE326.out|refine eS_ ?_ GE327.out)|exact HB.out)) hb);clear BK326;clear BK327;clear HB;have HO335:=n0_;have HO338:=n1_;have HO341:=n2_;have BK326:=n3_;have BK327:=n4_;have HB:=n5_;clear n0_ n1_ n2_ n3_ n4_ n5_;(try clear hb);(try clear hb2);(try clear hk);(try clear hi);(try clear ho0);(try clear ho1);(try clear ho2))|((with_reducible refine gate_dst (N:=8) rfl ?_);(try (refine gate_guard (by rfl) ?_;dsimp only));refine box_event ?hg (N:=8) ?hd (cs:=#[.int .i64 0,.slice none 0 0,.slice none 0 0,.slice none 0 0,.int .i64 0]) (t:=28) ?hr ?_;(case hd => rfl);(case hg => rfl);(case hr => first|(go_simp;done)|(go_simp;rfl));intro gb345 hg w30 hbox hb;have n0_:=A0_.mk (Kd.R_below (by (with_reducible repeat (first|apply Kd.R_alloc|apply Kd.R_drewN|apply Kd.R_drew));exact HO335.out) hb);have n1_:=A0_.mk (Kd.R_below (by (with_reducible repeat (first|apply Kd.R_alloc|apply Kd.R_drewN|apply Kd.R_drew));exact HO338.out) hb);have n2_:=A0_.mk (Kd.S_below (by (with_reducible repeat (first|apply Kd.S_alloc|apply Kd.S_drewN|apply Kd.S_drew));exact HO341.out) hb);have n3_:=A0_.mk (blk_below (g:=gb326) (o:=.cells #[.int .i64 a0_0,.slice A0_1 l0_1.length c0_1,.slice A0_2 l0_2.length c0_2,.slice A0_3 l0_3.length c0_3,.int .i64 a0_4] 28 (0,0)) (by (with_reducible repeat (first|refine bN_ ?_ _|refine bD_ ?_|refine bA_ ?_ _));exact BK326.out) hb);have n4_:=A0_.mk (blk_below (g:=gb327) (o:=.cells #[.int .i64 a1_0,.int .i64 a1_1] 30 (0,0)) (by (with_reducible repeat (first|refine bN_ ?_ _|refine bD_ ?_|refine bA_ ?_ _));exact BK327.out) hb);have n5_:=A0_.mk (below_step (by repeat (first|(with_reducible first|exact HB.out|apply eA_|apply eN_|apply eD_|refine eS_ ?_ GE326.out|refine eS_ ?_ GE327.out)|exact HB.out)) hb);have n6_:=A0_.mk (hbox);have n7_:=A0_.mk ((by rw [hg];exact (below_size (by repeat (first|(with_reducible first|exact HB.out|apply eA_|apply eN_|apply eD_|refine eS_ ?_ GE326.out|refine eS_ ?_ GE327.out)|exact HB.out))) : w.heap.size ≤ gb345));have n8_:=A0_.mk ((by rw [hg];exact (below_size (by repeat (first|(with_reducible first|exact HB.out|apply eA_|apply eN_|apply eD_|refine eS_ ?_ GE326.out|refine eS_ ?_ GE327.out)|exact HB.out))) : w.heap.size ≤ gb345));have n9_:=A0_.mk ((by rw [hg];exact Nat.ne_of_lt (blk_lt (g:=gb326) (o:=.cells #[.int .i64 a0_0,.slice A0_1 l0_1.length c0_1,.slice A0_2 l0_2.length c0_2,.slice A0_3 l0_3.length c0_3,.int .i64 a0_4] 28 (0,0)) (by (with_reducible repeat (first|refine bN_ ?_ _|refine bD_ ?_|refine bA_ ?_ _));exact BK326.out)) : gb326 ≠ gb345));have n10_:=A0_.mk ((by rw [hg];exact Nat.ne_of_gt (blk_lt (g:=gb326) (o:=.cells #[.int .i64 a0_0,.slice A0_1 l0_1.length c0_1,.slice A0_2 l0_2.length c0_2,.slice A0_3 l0_3.length c0_3,.int .i64 a0_4] 28 (0,0)) (by (with_reducible repeat (first|refine bN_ ?_ _|refine bD_ ?_|refine bA_ ?_ _));exact BK326.out)) : gb345 ≠ gb326));have n11_:=A0_.mk ((by rw [hg];exact Nat.ne_of_lt (blk_lt (g:=gb327) (o:=.cells #[.int .i64 a1_0,.int .i64 a1_1] 30 (0,0)) (by (with_reducible repeat (first|refine bN_ ?_ _|refine bD_ ?_|refine bA_ ?_ _));exact BK327.out)) : gb327 ≠ gb345));have n12_:=A0_.mk ((by rw [hg];exact Nat.ne_of_gt (blk_lt (g:=gb327) (o:=.cells #[.int .i64 a1_0,.int .i64 a1_1] 30 (0,0)) (by (with_reducible repeat (first|refine bN_ ?_ _|refine bD_ ?_|refine bA_ ?_ _));exact BK327.out)) : gb345 ≠ gb327));clear HO335;clear HO338;clear HO341;clear BK326;clear BK327;clear HB;have HO335:=n0_;have HO338:=n1_;have HO341:=n2_;have BK326:=n3_;have BK327:=n4_;have HB:=n5_;have BK345:=n6_;have GW345:=n7_;have GE345:=n8_;have NB326_345:=n9_;have NB345_326:=n10_;have NB327_345:=n11_;have NB345_327:=n12_;clear n0_ n1_ n2_ n3_ n4_ n5_ n6_ n7_ n8_ n9_ n10_ n11_ n12_;clear hb hbox hg)|((with_reducible refine gate_dst (N:=9) rfl ?_);(try (refine gate_guard (by rfl) ?_;dsimp only));refine box_event ?hg (N:=9) ?hd (cs:=#[.int .i64 0,.int .i64 0]) (t:=40) ?hr ?_;(case hd => rfl);(case hg => rfl);(case hr => first|(go_simp;done)|(go_simp;rfl));intro gb346 hg w31 hbox hb;have n0_:=A0_.mk (Kd.R_below (by (with_reducible repeat (first|apply Kd.R_alloc|apply Kd.R_drewN|apply Kd.R_drew));exact HO335.out) hb);have n1_:=A0_.mk (Kd.R_below (by (with_reducible repeat (first|apply Kd.R_alloc|apply Kd.R_drewN|apply Kd.R_drew));exact HO338.out) hb);have n2_:=A0_.mk (Kd.S_below (by (with_reducible repeat (first|apply Kd.S_alloc|apply Kd.S_drewN|apply Kd.S_drew));exact HO341.out) hb);have n3_:=A0_.mk (blk_below (g:=gb326) (o:=.cells #[.int .i64 a0_0,.slice A0_1 l0_1.length c0_1,.slice A0_2 l0_2.length c0_2,.slice A0_3 l0_3.length c0_3,.int .i64 a0_4] 28 (0,0)) (by (with_reducible repeat (first|refine bN_ ?_ _|refine bD_ ?_|refine bA_ ?_ _));exact BK326.out) hb);have n4_:=A0_.mk (blk_below (g:=gb327) (o:=.cells #[.int .i64 a1_0,.int .i64 a1_1] 30 (0,0)) (by (with_reducible repeat (first|refine bN_ ?_ _|refine bD_ ?_|refine bA_ ?_ _));exact BK327.out) hb);have n5_:=A0_.mk (blk_below (g:=gb345) (o:=.cells #[.int .i64 0,.slice none 0 0,.slice none 0 0,.slice none 0 0,.int .i64 0] 28 (0,0)) (by (with_reducible repeat (first|refine bN_ ?_ _|refine bD_ ?_|refine bA_ ?_ _));exact BK345.out) hb);have n6_:=A0_.mk (below_step (by repeat (first|(with_reducible first|exact HB.out|apply eA_|apply eN_|apply eD_|refine eS_ ?_ GE326.out|refine eS_ ?_ GE327.out|refine eS_ ?_ GE345.out)|exact HB.out)) hb);have n7_:=A0_.mk (hbox);have n8_:=A0_.mk ((by rw [hg];exact (below_size (by repeat (first|(with_reducible first|exact HB.out|apply eA_|apply eN_|apply eD_|refine eS_ ?_ GE326.out|refine eS_ ?_ GE327.out|refine eS_ ?_ GE345.out)|exact HB.out))) : w.heap.size ≤ gb346));have n9_:=A0_.mk ((by rw [hg];exact (below_size (by repeat (first|(with_reducible first|exact HB.out|apply eA_|apply eN_|apply eD_|refine eS_ ?_ GE326.out|refine eS_ ?_ GE327.out|refine eS_ ?_ GE345.out)|exact HB.out))) : w.heap.size ≤ gb346));have n10_:=A0_.mk ((by rw [hg];exact Nat.ne_of_lt (blk_lt (g:=gb326) (o:=.cells #[.int .i64 a0_0,.slice A0_1 l0_1.length c0_1,.slice A0_2 l0_2.length c0_2,.slice A0_3 l0_3.length c0_3,.int .i64 a0_4] 28 (0,0)) (by (with_reducible repeat (first|refine bN_ ?_ _|refine bD_ ?_|refine bA_ ?_ _));exact BK326.out)) : gb326 ≠ gb346));have n11_:=A0_.mk ((by rw [hg];exact Nat.ne_of_gt (blk_lt (g:=gb326) (o:=.cells #[.int .i64 a0_0,.slice A0_1 l0_1.length c0_1,.slice A0_2 l0_2.length c0_2,.slice A0_3 l0_3.length c0_3,.int .i64 a0_4] 28 (0,0)) (by (with_reducible repeat (first|refine bN_ ?_ _|refine bD_ ?_|refine bA_ ?_ _));exact BK326.out)) : gb346 ≠ gb326));have n12_:=A0_.mk ((by rw [hg];exact Nat.ne_of_lt (blk_lt (g:=gb327) (o:=.cells #[.int .i64 a1_0,.int .i64 a1_1] 30 (0,0)) (by (with_reducible repeat (first|refine bN_ ?_ _|refine bD_ ?_|refine bA_ ?_ _));exact BK327.out)) : gb327 ≠ gb346));have n13_:=A0_.mk ((by rw [hg];exact Nat.ne_of_gt (blk_lt (g:=gb327) (o:=.cells #[.int .i64 a1_0,.int .i64 a1_1] 30 (0,0)) (by (with_reducible repeat (first|refine bN_ ?_ _|refine bD_ ?_|refine bA_ ?_ _));exact BK327.out)) : gb346 ≠ gb327));have n14_:=A0_.mk ((by rw [hg];exact Nat.ne_of_lt (blk_lt (g:=gb345) (o:=.cells #[.int .i64 0,.slice none 0 0,.slice none 0 0,.slice none 0 0,.int .i64 0] 28 (0,0)) (by (with_reducible repeat (first|refine bN_ ?_ _|refine bD_ ?_|refine bA_ ?_ _));exact BK345.out)) : gb345 ≠ gb346));have n15_:=A0_.mk ((by rw [hg];exact Nat.ne_of_gt (blk_lt (g:=gb345) (o:=.cells #[.int .i64 0,.slice none 0 0,.slice none 0 0,.slice none 0 0,.int .i64 0] 28 (0,0)) (by (with_reducible repeat (first|refine bN_ ?_ _|refine bD_ ?_|refine bA_ ?_ _));exact BK345.out)) : gb346 ≠ gb345));clear HO335;clear HO338;clear HO341;clear BK326;clear BK327;clear BK345;clear HB;have HO335:=n0_;have HO338:=n1_;have HO341:=n2_;have BK326:=n3_;have BK327:=n4_;have BK345:=n5_;have HB:=n6_;have BK346:=n7_;have GW346:=n8_;have GE346:=n9_;have NB326_346:=n10_;have NB346_326:=n11_;have NB327_346:=n12_;have NB346_327:=n13_;have NB345_346:=n14_;have NB346_345:=n15_;clear n0_ n1_ n2_ n3_ n4_ n5_ n6_ n7_ n8_ n9_ n10_ n11_ n12_ n13_ n14_ n15_;clear hb hbox hg;have hnb32:=NB345_326.out;have hnc32:=NB326_345.out;have hnb33:=NB345_327.out;have hnc33:=NB327_345.out;have hnb34:=NB345_346.out;have hnc34:=NB346_345.out;have hcz35_0 : w31.cell? ⟨gb345,0,none⟩ = some (.int .i64 0):=(bC_ BK345.out 0).trans rfl;have hcz35_1 : w31.cell? ⟨gb345,1,none⟩ = some (.slice none 0 0):=(bC_ BK345.out 1).trans rfl;have hcz35_2 : w31.cell? ⟨gb345,2,none⟩ = some (.slice none 0 0):=(bC_ BK345.out 2).trans rfl;have hcz35_3 : w31.cell? ⟨gb345,3,none⟩ = some (.slice none 0 0):=(bC_ BK345.out 3).trans rfl;have hcz35_4 : w31.cell? ⟨gb345,4,none⟩ = some (.int .i64 0):=(bC_ BK345.out 4).trans rfl;have hfz35_0:=bF_ BK345.out 0;have hfz35_1:=bF_ BK345.out 1;have hfz35_2:=bF_ BK345.out 2;have hfz35_3:=bF_ BK345.out 3;have hfz35_4:=bF_ BK345.out 4;obtain ⟨Ao36,co36,eo36⟩:=Kd.R_slice HO335.out;subst eo36;obtain ⟨Ao37,co37,eo37⟩:=Kd.R_slice HO338.out;subst eo37;obtain ⟨Ao38,co38,eo38⟩:=Kd.S_slice HO341.out;subst eo38;have hnb39:=NB346_326.out;have hnc39:=NB326_346.out;have hnb40:=NB346_327.out;have hnc40:=NB327_346.out;have hcz41_0 : w31.cell? ⟨gb346,0,none⟩ = some (.int .i64 0):=(bC_ BK346.out 0).trans rfl;have hcz41_1 : w31.cell? ⟨gb346,1,none⟩ = some (.int .i64 0):=(bC_ BK346.out 1).trans rfl;have hfz41_0:=bF_ BK346.out 0;have hfz41_1:=bF_ BK346.out 1;have hcz42_0 : w31.cell? ⟨gb327,0,none⟩ = some (.int .i64 a1_0):=(bC_ BK327.out 0).trans rfl;have hcz42_1 : w31.cell? ⟨gb327,1,none⟩ = some (.int .i64 a1_1):=(bC_ BK327.out 1).trans rfl;have hfz42_0:=bF_ BK327.out 0;have hfz42_1:=bF_ BK327.out 1)|((with_reducible refine gate_callee (f:=20) rfl ?_);refine goesL_ (some 61) rfl rfl Tryd.func20 (by kernel_rfl) rfl #[.string t330,.int .i64 a1_0,.int .i64 a1_1] rfl (by (try simp only [List.map_toArray,List.map_cons,List.map_nil]);first|done|rfl|(simp only [List.length_drop,List.length_take];rfl)) ?_;(with_reducible refine (stim_All.calls t330 a1_0 a1_1 t347 t350 t351 _ ?side1 A9.out).mono ?_);(case side1 => exact GV_below HG.out (by repeat (first|(with_reducible first|exact HB.out|apply eA_|apply eN_|apply eD_|refine eS_ ?_ GE326.out|refine eS_ ?_ GE327.out|refine eS_ ?_ GE345.out|refine eS_ ?_ GE346.out)|exact HB.out)));rintro e w43 ⟨v348,rfl,ho0,hb⟩;refine ⟨_,rfl,?_⟩;have n0_:=A0_.mk (Kd.R_below (by (with_reducible repeat (first|apply Kd.R_alloc|apply Kd.R_drewN|apply Kd.R_drew));exact (Kd.R_mono (Kd.R_mono (Kd.R_far (p:=⟨gb346,1,none⟩) (Kd.R_far (p:=⟨gb346,0,none⟩) (Kd.R_far (p:=⟨gb345,4,none⟩) (Kd.R_far (p:=⟨gb345,3,none⟩) (Kd.R_far (p:=⟨gb345,2,none⟩) (Kd.R_far (p:=⟨gb345,1,none⟩) (Kd.R_far (p:=⟨gb345,0,none⟩) (Kd.R_types (Kd.R_types HO335.out BK345.out (by decide)) BK346.out (by decide)) (fun _ hk => hk.1.2) (.int .i64 t332)) (fun _ hk => hk.1.2) (.slice Ao36 t333.length co36)) (fun _ hk => hk.1.2) (.slice Ao37 t336.length co37)) (fun _ hk => hk.1.2) (.slice Ao38 t339.length co38)) (fun _ hk => hk.1.2) (.int .i64 t342)) (fun _ hk => hk.2) (.int .i64 t343)) (fun _ hk => hk.2) (.int .i64 t344)) (fun _ h_ => h_.1)) (fun _ h_ => h_.1))) hb);have n1_:=A0_.mk (Kd.R_below (by (with_reducible repeat (first|apply Kd.R_alloc|apply Kd.R_drewN|apply Kd.R_drew));exact (Kd.R_mono (Kd.R_mono (Kd.R_far (p:=⟨gb346,1,none⟩) (Kd.R_far (p:=⟨gb346,0,none⟩) (Kd.R_far (p:=⟨gb345,4,none⟩) (Kd.R_far (p:=⟨gb345,3,none⟩) (Kd.R_far (p:=⟨gb345,2,none⟩) (Kd.R_far (p:=⟨gb345,1,none⟩) (Kd.R_far (p:=⟨gb345,0,none⟩) (Kd.R_types (Kd.R_types HO338.out BK345.out (by decide)) BK346.out (by decide)) (fun _ hk => hk.1.2) (.int .i64 t332)) (fun _ hk => hk.1.2) (.slice Ao36 t333.length co36)) (fun _ hk => hk.1.2) (.slice Ao37 t336.length co37)) (fun _ hk => hk.1.2) (.slice Ao38 t339.length co38)) (fun _ hk => hk.1.2) (.int .i64 t342)) (fun _ hk => hk.2) (.int .i64 t343)) (fun _ hk => hk.2) (.int .i64 t344)) (fun _ h_ => h_.1)) (fun _ h_ => h_.1))) hb);have n2_:=A0_.mk (Kd.S_below (by (with_reducible repeat (first|apply Kd.S_alloc|apply Kd.S_drewN|apply Kd.S_drew));exact (Kd.S_mono (Kd.S_mono (Kd.S_far (p:=⟨gb346,1,none⟩) (Kd.S_far (p:=⟨gb346,0,none⟩) (Kd.S_far (p:=⟨gb345,4,none⟩) (Kd.S_far (p:=⟨gb345,3,none⟩) (Kd.S_far (p:=⟨gb345,2,none⟩) (Kd.S_far (p:=⟨gb345,1,none⟩) (Kd.S_far (p:=⟨gb345,0,none⟩) (Kd.S_types (Kd.S_types HO341.out BK345.out (by decide)) BK346.out (by decide)) (fun _ hk => hk.1.2) (.int .i64 t332)) (fun _ hk => hk.1.2) (.slice Ao36 t333.length co36)) (fun _ hk => hk.1.2) (.slice Ao37 t336.length co37)) (fun _ hk => hk.1.2) (.slice Ao38 t339.length co38)) (fun _ hk => hk.1.2) (.int .i64 t342)) (fun _ hk => hk.2) (.int .i64 t343)) (fun _ hk => hk.2) (.int .i64 t344)) (fun _ h_ => h_.1)) (fun _ h_ => h_.1))) hb);have n3_:=A0_.mk (Kd.R_lower (Kd.R_newB (Kd.R_newB (Kd.R_new' (Kd.R_new' (Kd.R_new' ho0 (Kd.R_lt (by (with_reducible repeat (first|apply Kd.R_alloc|apply Kd.R_drewN|apply Kd.R_drew));exact (Kd.R_mono (Kd.R_mono (Kd.R_far (p:=⟨gb346,1,none⟩) (Kd.R_far (p:=⟨gb346,0,none⟩) (Kd.R_far (p:=⟨gb345,4,none⟩) (Kd.R_far (p:=⟨gb345,3,none⟩) (Kd.R_far (p:=⟨gb345,2,none⟩) (Kd.R_far (p:=⟨gb345,1,none⟩) (Kd.R_far (p:=⟨gb345,0,none⟩) (Kd.R_types (Kd.R_types HO335.out BK345.out (by decide)) BK346.out (by decide)) (fun _ hk => hk.1.2) (.int .i64 t332)) (fun _ hk => hk.1.2) (.slice Ao36 t333.length co36)) (fun _ hk => hk.1.2) (.slice Ao37 t336.length co37)) (fun _ hk => hk.1.2) (.slice Ao38 t339.length co38)) (fun _ hk => hk.1.2) (.int .i64 t342)) (fun _ hk => hk.2) (.int .i64 t343)) (fun _ hk => hk.2) (.int .i64 t344)) (fun _ h_ => h_.1)) (fun _ h_ => h_.1))))) (Kd.R_lt (by (with_reducible repeat (first|apply Kd.R_alloc|apply Kd.R_drewN|apply Kd.R_drew));exact (Kd.R_mono (Kd.R_mono (Kd.R_far (p:=⟨gb346,1,none⟩) (Kd.R_far (p:=⟨gb346,0,none⟩) (Kd.R_far (p:=⟨gb345,4,none⟩) (Kd.R_far (p:=⟨gb345,3,none⟩) (Kd.R_far (p:=⟨gb345,2,none⟩) (Kd.R_far (p:=⟨gb345,1,none⟩) (Kd.R_far (p:=⟨gb345,0,none⟩) (Kd.R_types (Kd.R_types HO338.out BK345.out (by decide)) BK346.out (by decide)) (fun _ hk => hk.1.2) (.int .i64 t332)) (fun _ hk => hk.1.2) (.slice Ao36 t333.length co36)) (fun _ hk => hk.1.2) (.slice Ao37 t336.length co37)) (fun _ hk => hk.1.2) (.slice Ao38 t339.length co38)) (fun _ hk => hk.1.2) (.int .i64 t342)) (fun _ hk => hk.2) (.int .i64 t343)) (fun _ hk => hk.2) (.int .i64 t344)) (fun _ h_ => h_.1)) (fun _ h_ => h_.1))))) (Kd.S_lt (by (with_reducible repeat (first|apply Kd.S_alloc|apply Kd.S_drewN|apply Kd.S_drew));exact (Kd.S_mono (Kd.S_mono (Kd.S_far (p:=⟨gb346,1,none⟩) (Kd.S_far (p:=⟨gb346,0,none⟩) (Kd.S_far (p:=⟨gb345,4,none⟩) (Kd.S_far (p:=⟨gb345,3,none⟩) (Kd.S_far (p:=⟨gb345,2,none⟩) (Kd.S_far (p:=⟨gb345,1,none⟩) (Kd.S_far (p:=⟨gb345,0,none⟩) (Kd.S_types (Kd.S_types HO341.out BK345.out (by decide)) BK346.out (by decide)) (fun _ hk => hk.1.2) (.int .i64 t332)) (fun _ hk => hk.1.2) (.slice Ao36 t333.length co36)) (fun _ hk => hk.1.2) (.slice Ao37 t336.length co37)) (fun _ hk => hk.1.2) (.slice Ao38 t339.length co38)) (fun _ hk => hk.1.2) (.int .i64 t342)) (fun _ hk => hk.2) (.int .i64 t343)) (fun _ hk => hk.2) (.int .i64 t344)) (fun _ h_ => h_.1)) (fun _ h_ => h_.1))))) (g:=gb326) (o:=.cells #[.int .i64 a0_0,.slice A0_1 l0_1.length c0_1,.slice A0_2 l0_2.length c0_2,.slice A0_3 l0_3.length c0_3,.int .i64 a0_4] 28 (0,0)) (by (with_reducible repeat (first|refine bN_ ?_ _|refine bD_ ?_|refine bA_ ?_ _));refine blk_far ?_ NB326_346.out _;(with_reducible repeat (first|refine bN_ ?_ _|refine bD_ ?_|refine bA_ ?_ _));refine blk_far ?_ NB326_346.out _;(with_reducible repeat (first|refine bN_ ?_ _|refine bD_ ?_|refine bA_ ?_ _));refine blk_far ?_ NB326_345.out _;(with_reducible repeat (first|refine bN_ ?_ _|refine bD_ ?_|refine bA_ ?_ _));refine blk_far ?_ NB326_345.out _;(with_reducible repeat (first|refine bN_ ?_ _|refine bD_ ?_|refine bA_ ?_ _));refine blk_far ?_ NB326_345.out _;(with_reducible repeat (first|refine bN_ ?_ _|refine bD_ ?_|refine bA_ ?_ _));refine blk_far ?_ NB326_345.out _;(with_reducible repeat (first|refine bN_ ?_ _|refine bD_ ?_|refine bA_ ?_ _));refine blk_far ?_ NB326_345.out _;(with_reducible repeat (first|refine bN_ ?_ _|refine bD_ ?_|refine bA_ ?_ _));exact BK326.out)) (g:=gb345) (o:=.cells #[.int .i64 t332,.slice Ao36 t333.length co36,.slice Ao37 t336.length co37,.slice Ao38 t339.length co38,.int .i64 t342] 28 (0,0)) (by (with_reducible repeat (first|refine bN_ ?_ _|refine bD_ ?_|refine bA_ ?_ _));refine blk_far ?_ NB345_346.out _;(with_reducible repeat (first|refine bN_ ?_ _|refine bD_ ?_|refine bA_ ?_ _));refine blk_far ?_ NB345_346.out _;(with_reducible repeat (first|refine bN_ ?_ _|refine bD_ ?_|refine bA_ ?_ _));refine blk_put (cs:=#[.int .i64 t332,.slice Ao36 t333.length co36,.slice Ao37 t336.length co37,.slice Ao38 t339.length co38,.int .i64 0]) ?_ 4 _ rfl;(with_reducible repeat (first|refine bN_ ?_ _|refine bD_ ?_|refine bA_ ?_ _));refine blk_put (cs:=#[.int .i64 t332,.slice Ao36 t333.length co36,.slice Ao37 t336.length co37,.slice none 0 0,.int .i64 0]) ?_ 3 _ rfl;(with_reducible repeat (first|refine bN_ ?_ _|refine bD_ ?_|refine bA_ ?_ _));refine blk_put (cs:=#[.int .i64 t332,.slice Ao36 t333.length co36,.slice none 0 0,.slice none 0 0,.int .i64 0]) ?_ 2 _ rfl;(with_reducible repeat (first|refine bN_ ?_ _|refine bD_ ?_|refine bA_ ?_ _));refine blk_put (cs:=#[.int .i64 t332,.slice none 0 0,.slice none 0 0,.slice none 0 0,.int .i64 0]) ?_ 1 _ rfl;(with_reducible repeat (first|refine bN_ ?_ _|refine bD_ ?_|refine bA_ ?_ _));refine blk_put (cs:=#[.int .i64 0,.slice none 0 0,.slice none 0 0,.slice none 0 0,.int .i64 0]) ?_ 0 _ rfl;(with_reducible repeat (first|refine bN_ ?_ _|refine bD_ ?_|refine bA_ ?_ _));exact BK345.out)) (below_size (by repeat (first|(with_reducible first|exact HB.out|apply eA_|apply eN_|apply eD_|refine eS_ ?_ GE326.out|refine eS_ ?_ GE327.out|refine eS_ ?_ GE345.out|refine eS_ ?_ GE346.out)|exact HB.out))));have n4_:=A0_.mk (blk_below (g:=gb326) (o:=.cells #[.int .i64 a0_0,.slice A0_1 l0_1.length c0_1,.slice A0_2 l0_2.length c0_2,.slice A0_3 l0_3.length c0_3,.int .i64 a0_4] 28 (0,0)) (by (with_reducible repeat (first|refine bN_ ?_ _|refine bD_ ?_|refine bA_ ?_ _));refine blk_far ?_ NB326_346.out _;(with_reducible repeat (first|refine bN_ ?_ _|refine bD_ ?_|refine bA_ ?_ _));refine blk_far ?_ NB326_346.out _;(with_reducible repeat (first|refine bN_ ?_ _|refine bD_ ?_|refine bA_ ?_ _));refine blk_far ?_ NB326_345.out _;(with_reducible repeat (first|refine bN_ ?_ _|refine bD_ ?_|refine bA_ ?_ _));refine blk_far ?_ NB326_345.out _;(with_reducible repeat (first|refine bN_ ?_ _|refine bD_ ?_|refine bA_ ?_ _));refine blk_far ?_ NB326_345.out _;(with_reducible repeat (first|refine bN_ ?_ _|refine bD_ ?_|refine bA_ ?_ _));refine blk_far ?_ NB326_345.out _;(with_reducible repeat (first|refine bN_ ?_ _|refine bD_ ?_|refine bA_ ?_ _));refine blk_far ?_ NB326_345.out _;(with_reducible repeat (first|refine bN_ ?_ _|refine bD_ ?_|refine bA_ ?_ _));exact BK326.out) hb);have n5_:=A0_.mk (blk_below (g:=gb327) (o:=.cells #[.int .i64 a1_0,.int .i64 a1_1] 30 (0,0)) (by (with_reducible repeat (first|refine bN_ ?_ _|refine bD_ ?_|refine bA_ ?_ _));refine blk_far ?_ NB327_346.out _;(with_reducible repeat (first|refine bN_ ?_ _|refine bD_ ?_|refine bA_ ?_ _));refine blk_far ?_ NB327_346.out _;(with_reducible repeat (first|refine bN_ ?_ _|refine bD_ ?_|refine bA_ ?_ _));refine blk_far ?_ NB327_345.out _;(with_reducible repeat (first|refine bN_ ?_ _|refine bD_ ?_|refine bA_ ?_ _));refine blk_far ?_ NB327_345.out _;(with_reducible repeat (first|refine bN_ ?_ _|refine bD_ ?_|refine bA_ ?_ _));refine blk_far ?_ NB327_345.out _;(with_reducible repeat (first|refine bN_ ?_ _|refine bD_ ?_|refine bA_ ?_ _));refine blk_far ?_ NB327_345.out _;(with_reducible repeat (first|refine bN_ ?_ _|refine bD_ ?_|refine bA_ ?_ _));refine blk_far ?_ NB327_345.out _;(with_reducible repeat (first|refine bN_ ?_ _|refine bD_ ?_|refine bA_ ?_ _));exact BK327.out) hb);have n6_:=A0_.mk (blk_below (g:=gb345) (o:=.cells #[.int .i64 t332,.slice Ao36 t333.length co36,.slice Ao37 t336.length co37,.slice Ao38 t339.length co38,.int .i64 t342] 28 (0,0)) (by (with_reducible repeat (first|refine bN_ ?_ _|refine bD_ ?_|refine bA_ ?_ _));refine blk_far ?_ NB345_346.out _;(with_reducible repeat (first|refine bN_ ?_ _|refine bD_ ?_|refine bA_ ?_ _));refine blk_far ?_ NB345_346.out _;(with_reducible repeat (first|refine bN_ ?_ _|refine bD_ ?_|refine bA_ ?_ _));refine blk_put (cs:=#[.int .i64 t332,.slice Ao36 t333.length co36,.slice Ao37 t336.length co37,.slice Ao38 t339.length co38,.int .i64 0]) ?_ 4 _ rfl;(with_reducible repeat (first|refine bN_ ?_ _|refine bD_ ?_|refine bA_ ?_ _));refine blk_put (cs:=#[.int .i64 t332,.slice Ao36 t333.length co36,.slice Ao37 t336.length co37,.slice none 0 0,.int .i64 0]) ?_ 3 _ rfl;(with_reducible repeat (first|refine bN_ ?_ _|refine bD_ ?_|refine bA_ ?_ _));refine blk_put (cs:=#[.int .i64 t332,.slice Ao36 t333.length co36,.slice none 0 0,.slice none 0 0,.int .i64 0]) ?_ 2 _ rfl;(with_reducible repeat (first|refine bN_ ?_ _|refine bD_ ?_|refine bA_ ?_ _));refine blk_put (cs:=#[.int .i64 t332,.slice none 0 0,.slice none 0 0,.slice none 0 0,.int .i64 0]) ?_ 1 _ rfl;(with_reducible repeat (first|refine bN_ ?_ _|refine bD_ ?_|refine bA_ ?_ _));refine blk_put (cs:=#[.int .i64 0,.slice none 0 0,.slice none 0 0,.slice none 0 0,.int .i64 0]) ?_ 0 _ rfl;(with_reducible repeat (first|refine bN_ ?_ _|refine bD_ ?_|refine bA_ ?_ _));exact BK345.out) hb);have n7_:=A0_.mk (blk_below (g:=gb346) (o:=.cells #[.int .i64 t343,.int .i64 t344] 40 (0,0)) (by (with_reducible repeat (first|refine bN_ ?_ _|refine bD_ ?_|refine bA_ ?_ _));refine blk_put (cs:=#[.int .i64 t343,.int .i64 0]) ?_ 1 _ rfl;(with_reducible repeat (first|refine bN_ ?_ _|refine bD_ ?_|refine bA_ ?_ _));refine blk_put (cs:=#[.int .i64 0,.int .i64 0]) ?_ 0 _ rfl;(with_reducible repeat (first|refine bN_ ?_ _|refine bD_ ?_|refine bA_ ?_ _));refine blk_far ?_ NB346_345.out _;(with_reducible repeat (first|refine bN_ ?_ _|refine bD_ ?_|refine bA_ ?_ _));refine blk_far ?_ NB346_345.out _;(with_reducible repeat (first|refine bN_ ?_ _|refine bD_ ?_|refine bA_ ?_ _));refine blk_far ?_ NB346_345.out _;(with_reducible repeat (first|refine bN_ ?_ _|refine bD_ ?_|refine bA_ ?_ _));refine blk_far ?_ NB346_345.out _;(with_reducible repeat (first|refine bN_ ?_ _|refine bD_ ?_|refine bA_ ?_ _));refine blk_far ?_ NB346_345.out _;(with_reducible repeat (first|refine bN_ ?_ _|refine bD_ ?_|refine bA_ ?_ _));exact BK346.out) hb);have n8_:=A0_.mk (below_step (by repeat (first|(with_reducible first|exact HB.out|apply eA_|apply eN_|apply eD_|refine eS_ ?_ GE326.out|refine eS_ ?_ GE327.out|refine eS_ ?_ GE345.out|refine eS_ ?_ GE346.out)|exact HB.out)) hb);clear HO335;clear HO338;clear HO341;clear BK326;clear BK327;clear BK345;clear BK346;clear HB;have HO335:=n0_;have HO338:=n1_;have HO341:=n2_;have HO349:=n3_;have BK326:=n4_;have BK327:=n5_;have BK345:=n6_;have BK346:=n7_;have HB:=n8_;clear n0_ n1_ n2_ n3_ n4_ n5_ n6_ n7_ n8_;(try clear hb);(try clear hb2);(try clear hk);(try clear hi);(try clear ho0))|((with_reducible refine gate_dst (N:=11) rfl ?_);(try (refine gate_guard (by rfl) ?_;dsimp only));refine box_event ?hg (N:=11) ?hd (cs:=#[.int .i64 0,.int .i64 0]) (t:=40) ?hr ?_;(case hd => rfl);(case hg => rfl);(case hr => first|(go_simp;done)|(go_simp;rfl));intro gb352 hg w44 hbox hb;have n0_:=A0_.mk (Kd.R_below (by (with_reducible repeat (first|apply Kd.R_alloc|apply Kd.R_drewN|apply Kd.R_drew));exact HO335.out) hb);have n1_:=A0_.mk (Kd.R_below (by (with_reducible repeat (first|apply Kd.R_alloc|apply Kd.R_drewN|apply Kd.R_drew));exact HO338.out) hb);have n2_:=A0_.mk (Kd.S_below (by (with_reducible repeat (first|apply Kd.S_alloc|apply Kd.S_drewN|apply Kd.S_drew));exact HO341.out) hb);have n3_:=A0_.mk (Kd.R_below (by (with_reducible repeat (first|apply Kd.R_alloc|apply Kd.R_drewN|apply Kd.R_drew));exact HO349.out) hb);have n4_:=A0_.mk (blk_below (g:=gb326) (o:=.cells #[.int .i64 a0_0,.slice A0_1 l0_1.length c0_1,.slice A0_2 l0_2.length c0_2,.slice A0_3 l0_3.length c0_3,.int .i64 a0_4] 28 (0,0)) (by (with_reducible repeat (first|refine bN_ ?_ _|refine bD_ ?_|refine bA_ ?_ _));exact BK326.out) hb);have n5_:=A0_.mk (blk_below (g:=gb327) (o:=.cells #[.int .i64 a1_0,.int .i64 a1_1] 30 (0,0)) (by (with_reducible repeat (first|refine bN_ ?_ _|refine bD_ ?_|refine bA_ ?_ _));exact BK327.out) hb);have n6_:=A0_.mk (blk_below (g:=gb345) (o:=.cells #[.int .i64 t332,.slice Ao36 t333.length co36,.slice Ao37 t336.length co37,.slice Ao38 t339.length co38,.int .i64 t342] 28 (0,0)) (by (with_reducible repeat (first|refine bN_ ?_ _|refine bD_ ?_|refine bA_ ?_ _));exact BK345.out) hb);have n7_:=A0_.mk (blk_below (g:=gb346) (o:=.cells #[.int .i64 t343,.int .i64 t344] 40 (0,0)) (by (with_reducible repeat (first|refine bN_ ?_ _|refine bD_ ?_|refine bA_ ?_ _));exact BK346.out) hb);have n8_:=A0_.mk (below_step (by repeat (first|(with_reducible first|exact HB.out|apply eA_|apply eN_|apply eD_|refine eS_ ?_ GE326.out|refine eS_ ?_ GE327.out|refine eS_ ?_ GE345.out|refine eS_ ?_ GE346.out)|exact HB.out)) hb);have n9_:=A0_.mk (hbox);have n10_:=A0_.mk ((by rw [hg];exact (below_size (by repeat (first|(with_reducible first|exact HB.out|apply eA_|apply eN_|apply eD_|refine eS_ ?_ GE326.out|refine eS_ ?_ GE327.out|refine eS_ ?_ GE345.out|refine eS_ ?_ GE346.out)|exact HB.out))) : w.heap.size ≤ gb352));have n11_:=A0_.mk ((by rw [hg];exact (below_size (by repeat (first|(with_reducible first|exact HB.out|apply eA_|apply eN_|apply eD_|refine eS_ ?_ GE326.out|refine eS_ ?_ GE327.out|refine eS_ ?_ GE345.out|refine eS_ ?_ GE346.out)|exact HB.out))) : w.heap.size ≤ gb352));have n12_:=A0_.mk ((by rw [hg];exact Nat.ne_of_lt (blk_lt (g:=gb326) (o:=.cells #[.int .i64 a0_0,.slice A0_1 l0_1.length c0_1,.slice A0_2 l0_2.length c0_2,.slice A0_3 l0_3.length c0_3,.int .i64 a0_4] 28 (0,0)) (by (with_reducible repeat (first|refine bN_ ?_ _|refine bD_ ?_|refine bA_ ?_ _));exact BK326.out)) : gb326 ≠ gb352));have n13_:=A0_.mk ((by rw [hg];exact Nat.ne_of_gt (blk_lt (g:=gb326) (o:=.cells #[.int .i64 a0_0,.slice A0_1 l0_1.length c0_1,.slice A0_2 l0_2.length c0_2,.slice A0_3 l0_3.length c0_3,.int .i64 a0_4] 28 (0,0)) (by (with_reducible repeat (first|refine bN_ ?_ _|refine bD_ ?_|refine bA_ ?_ _));exact BK326.out)) : gb352 ≠ gb326));have n14_:=A0_.mk ((by rw [hg];exact Nat.ne_of_lt (blk_lt (g:=gb327) (o:=.cells #[.int .i64 a1_0,.int .i64 a1_1] 30 (0,0)) (by (with_reducible repeat (first|refine bN_ ?_ _|refine bD_ ?_|refine bA_ ?_ _));exact BK327.out)) : gb327 ≠ gb352));have n15_:=A0_.mk ((by rw [hg];exact Nat.ne_of_gt (blk_lt (g:=gb327) (o:=.cells #[.int .i64 a1_0,.int .i64 a1_1] 30 (0,0)) (by (with_reducible repeat (first|refine bN_ ?_ _|refine bD_ ?_|refine bA_ ?_ _));exact BK327.out)) : gb352 ≠ gb327));have n16_:=A0_.mk ((by rw [hg];exact Nat.ne_of_lt (blk_lt (g:=gb345) (o:=.cells #[.int .i64 t332,.slice Ao36 t333.length co36,.slice Ao37 t336.length co37,.slice Ao38 t339.length co38,.int .i64 t342] 28 (0,0)) (by (with_reducible repeat (first|refine bN_ ?_ _|refine bD_ ?_|refine bA_ ?_ _));exact BK345.out)) : gb345 ≠ gb352));have n17_:=A0_.mk ((by rw [hg];exact Nat.ne_of_gt (blk_lt (g:=gb345) (o:=.cells #[.int .i64 t332,.slice Ao36 t333.length co36,.slice Ao37 t336.length co37,.slice Ao38 t339.length co38,.int .i64 t342] 28 (0,0)) (by (with_reducible repeat (first|refine bN_ ?_ _|refine bD_ ?_|refine bA_ ?_ _));exact BK345.out)) : gb352 ≠ gb345));have n18_:=A0_.mk ((by rw [hg];exact Nat.ne_of_lt (blk_lt (g:=gb346) (o:=.cells #[.int .i64 t343,.int .i64 t344] 40 (0,0)) (by (with_reducible repeat (first|refine bN_ ?_ _|refine bD_ ?_|refine bA_ ?_ _));exact BK346.out)) : gb346 ≠ gb352));have n19_:=A0_.mk ((by rw [hg];exact Nat.ne_of_gt (blk_lt (g:=gb346) (o:=.cells #[.int .i64 t343,.int .i64 t344] 40 (0,0)) (by (with_reducible repeat (first|refine bN_ ?_ _|refine bD_ ?_|refine bA_ ?_ _));exact BK346.out)) : gb352 ≠ gb346));clear HO335;clear HO338;clear HO341;clear HO349;clear BK326;clear BK327;clear BK345;clear BK346;clear HB;have HO335:=n0_;have HO338:=n1_;have HO341:=n2_;have HO349:=n3_;have BK326:=n4_;have BK327:=n5_;have BK345:=n6_;have BK346:=n7_;have HB:=n8_;have BK352:=n9_;have GW352:=n10_;have GE352:=n11_;have NB326_352:=n12_;have NB352_326:=n13_;have NB327_352:=n14_;have NB352_327:=n15_;have NB345_352:=n16_;have NB352_345:=n17_;have NB346_352:=n18_;have NB352_346:=n19_;clear n0_ n1_ n2_ n3_ n4_ n5_ n6_ n7_ n8_ n9_ n10_ n11_ n12_ n13_ n14_ n15_ n16_ n17_ n18_ n19_;clear hb hbox hg;have hnb45:=NB352_326.out;have hnc45:=NB326_352.out;have hnb46:=NB352_327.out;have hnc46:=NB327_352.out;have hnb47:=NB352_345.out;have hnc47:=NB345_352.out;have hnb48:=NB352_346.out;have hnc48:=NB346_352.out;have hcz49_0 : w44.cell? ⟨gb352,0,none⟩ = some (.int .i64 0):=(bC_ BK352.out 0).trans rfl;have hcz49_1 : w44.cell? ⟨gb352,1,none⟩ = some (.int .i64 0):=(bC_ BK352.out 1).trans rfl;have hfz49_0:=bF_ BK352.out 0;have hfz49_1:=bF_ BK352.out 1))
         have n0_ : A0_ (Kd.R k83 83 ((w44.setCell ⟨gb352,0,none⟩ (.int .i64 t350)).setCell ⟨gb352,1,none⟩ (.int .i64 t351)) w.heap.size (fun _ => True) (.slice Ao36 t333.length co36) t333):=⟨by (with_reducible repeat (first|apply Kd.R_alloc|apply Kd.R_drewN|apply Kd.R_drew));exact Kd.R_mono (Kd.R_far (p:=⟨gb352,1,none⟩) (Kd.R_far (p:=⟨gb352,0,none⟩) (Kd.R_types HO335.out BK352.out (by decide)) (fun _ hk => hk.2) (.int .i64 t350)) (fun _ hk => hk.2) (.int .i64 t351)) (fun _ hk => trivial)⟩
         have n1_ : A0_ (Kd.R Kd.bool 4 ((w44.setCell ⟨gb352,0,none⟩ (.int .i64 t350)).setCell ⟨gb352,1,none⟩ (.int .i64 t351)) w.heap.size (fun _ => True) (.slice Ao37 t336.length co37) t336):=⟨by (with_reducible repeat (first|apply Kd.R_alloc|apply Kd.R_drewN|apply Kd.R_drew));exact Kd.R_mono (Kd.R_far (p:=⟨gb352,1,none⟩) (Kd.R_far (p:=⟨gb352,0,none⟩) (Kd.R_types HO338.out BK352.out (by decide)) (fun _ hk => hk.2) (.int .i64 t350)) (fun _ hk => hk.2) (.int .i64 t351)) (fun _ hk => trivial)⟩
         have n2_ : A0_ (Kd.S (Kd.slice 4 Kd.bool) 23 ((w44.setCell ⟨gb352,0,none⟩ (.int .i64 t350)).setCell ⟨gb352,1,none⟩ (.int .i64 t351)) w.heap.size (fun k_ => some k_ ≠ (.slice Ao37 t336.length co37 : Value).ownBlock) (.slice Ao38 t339.length co38) t339):=⟨by (with_reducible repeat (first|apply Kd.S_alloc|apply Kd.S_drewN|apply Kd.S_drew));exact Kd.S_mono (Kd.S_far (p:=⟨gb352,1,none⟩) (Kd.S_far (p:=⟨gb352,0,none⟩) (Kd.S_types HO341.out BK352.out (by decide)) (fun _ hk => hk.2) (.int .i64 t350)) (fun _ hk => hk.2) (.int .i64 t351)) (fun _ hk => hk.1)⟩
         have n3_ : A0_ (Kd.R k28 28 ((w44.setCell ⟨gb352,0,none⟩ (.int .i64 t350)).setCell ⟨gb352,1,none⟩ (.int .i64 t351)) w.heap.size (fun k_ => some k_ ≠ (.slice Ao36 t333.length co36 : Value).ownBlock ∧ some k_ ≠ (.slice Ao37 t336.length co37 : Value).ownBlock ∧ some k_ ≠ (.slice Ao38 t339.length co38 : Value).ownBlock ∧ k_ ≠ gb326 ∧ k_ ≠ gb345) v348 t347):=⟨by (with_reducible repeat (first|apply Kd.R_alloc|apply Kd.R_drewN|apply Kd.R_drew));exact Kd.R_mono (Kd.R_far (p:=⟨gb352,1,none⟩) (Kd.R_far (p:=⟨gb352,0,none⟩) (Kd.R_types HO349.out BK352.out (by decide)) (fun _ hk => hk.2) (.int .i64 t350)) (fun _ hk => hk.2) (.int .i64 t351)) (fun _ hk => ⟨hk.1.1.1.1.1.2,⟨hk.1.1.1.1.2,⟨hk.1.1.1.2,⟨hk.1.1.2,hk.1.2⟩⟩⟩⟩)⟩
         have n4_ : A0_ (((w44.setCell ⟨gb352,0,none⟩ (.int .i64 t350)).setCell ⟨gb352,1,none⟩ (.int .i64 t351)).heap[gb326]? = some (.cells #[.int .i64 a0_0,.slice A0_1 l0_1.length c0_1,.slice A0_2 l0_2.length c0_2,.slice A0_3 l0_3.length c0_3,.int .i64 a0_4] 28 (0,0))):=⟨by (with_reducible repeat (first|refine bN_ ?_ _|refine bD_ ?_|refine bA_ ?_ _));refine blk_far ?_ NB326_352.out _;(with_reducible repeat (first|refine bN_ ?_ _|refine bD_ ?_|refine bA_ ?_ _));refine blk_far ?_ NB326_352.out _;(with_reducible repeat (first|refine bN_ ?_ _|refine bD_ ?_|refine bA_ ?_ _));exact BK326.out⟩
         have n5_ : A0_ (((w44.setCell ⟨gb352,0,none⟩ (.int .i64 t350)).setCell ⟨gb352,1,none⟩ (.int .i64 t351)).heap[gb327]? = some (.cells #[.int .i64 a1_0,.int .i64 a1_1] 30 (0,0))):=⟨by (with_reducible repeat (first|refine bN_ ?_ _|refine bD_ ?_|refine bA_ ?_ _));refine blk_far ?_ NB327_352.out _;(with_reducible repeat (first|refine bN_ ?_ _|refine bD_ ?_|refine bA_ ?_ _));refine blk_far ?_ NB327_352.out _;(with_reducible repeat (first|refine bN_ ?_ _|refine bD_ ?_|refine bA_ ?_ _));exact BK327.out⟩
         have n6_ : A0_ (((w44.setCell ⟨gb352,0,none⟩ (.int .i64 t350)).setCell ⟨gb352,1,none⟩ (.int .i64 t351)).heap[gb345]? = some (.cells #[.int .i64 t332,.slice Ao36 t333.length co36,.slice Ao37 t336.length co37,.slice Ao38 t339.length co38,.int .i64 t342] 28 (0,0))):=⟨by (with_reducible repeat (first|refine bN_ ?_ _|refine bD_ ?_|refine bA_ ?_ _));refine blk_far ?_ NB345_352.out _;(with_reducible repeat (first|refine bN_ ?_ _|refine bD_ ?_|refine bA_ ?_ _));refine blk_far ?_ NB345_352.out _;(with_reducible repeat (first|refine bN_ ?_ _|refine bD_ ?_|refine bA_ ?_ _));exact BK345.out⟩
         have n7_ : A0_ (((w44.setCell ⟨gb352,0,none⟩ (.int .i64 t350)).setCell ⟨gb352,1,none⟩ (.int .i64 t351)).heap[gb346]? = some (.cells #[.int .i64 t343,.int .i64 t344] 40 (0,0))):=⟨by (with_reducible repeat (first|refine bN_ ?_ _|refine bD_ ?_|refine bA_ ?_ _));refine blk_far ?_ NB346_352.out _;(with_reducible repeat (first|refine bN_ ?_ _|refine bD_ ?_|refine bA_ ?_ _));refine blk_far ?_ NB346_352.out _;(with_reducible repeat (first|refine bN_ ?_ _|refine bD_ ?_|refine bA_ ?_ _));exact BK346.out⟩
         have n8_ : A0_ (((w44.setCell ⟨gb352,0,none⟩ (.int .i64 t350)).setCell ⟨gb352,1,none⟩ (.int .i64 t351)).heap[gb352]? = some (.cells #[.int .i64 t350,.int .i64 t351] 40 (0,0))):=⟨by (with_reducible repeat (first|refine bN_ ?_ _|refine bD_ ?_|refine bA_ ?_ _));refine blk_put (cs:=#[.int .i64 t350,.int .i64 0]) ?_ 1 _ rfl;(with_reducible repeat (first|refine bN_ ?_ _|refine bD_ ?_|refine bA_ ?_ _));refine blk_put (cs:=#[.int .i64 0,.int .i64 0]) ?_ 0 _ rfl;(with_reducible repeat (first|refine bN_ ?_ _|refine bD_ ?_|refine bA_ ?_ _));exact BK352.out⟩
         have n9_ : A0_ (Below w.heap.size w ((w44.setCell ⟨gb352,0,none⟩ (.int .i64 t350)).setCell ⟨gb352,1,none⟩ (.int .i64 t351))):=⟨by repeat (first|(with_reducible first|exact HB.out|apply eA_|apply eN_|apply eD_|refine eS_ ?_ GE326.out|refine eS_ ?_ GE327.out|refine eS_ ?_ GE345.out|refine eS_ ?_ GE346.out|refine eS_ ?_ GE352.out)|exact HB.out)⟩
         (try clear HO335)
         (try clear HO338)
         (try clear HO341)
         (try clear HO349)
         (try clear BK326)
         (try clear BK327)
         (try clear BK345)
         (try clear BK346)
         (try clear BK352)
         (try clear HB)
         generalize ((w44.setCell ⟨gb352,0,none⟩ (.int .i64 t350)).setCell ⟨gb352,1,none⟩ (.int .i64 t351)) = w50 at n0_ n1_ n2_ n3_ n4_ n5_ n6_ n7_ n8_ n9_ ⊢
         have HO335:=n0_
         have HO338:=n1_
         have HO341:=n2_
         have HO349:=n3_
         have BK326:=n4_
         have BK327:=n5_
         have BK345:=n6_
         have BK346:=n7_
         have BK352:=n8_
         have HB:=n9_
         clear n0_ n1_ n2_ n3_ n4_ n5_ n6_ n7_ n8_ n9_
         have n0_:=A0_.mk (Kd.R_drew HO335.out)
         have n1_:=A0_.mk (Kd.R_drew HO338.out)
         have n2_:=A0_.mk (Kd.S_drew HO341.out)
         have n3_:=A0_.mk (Kd.R_drew HO349.out)
         have n4_:=A0_.mk (bD_ BK326.out)
         have n5_:=A0_.mk (bD_ BK327.out)
         have n6_:=A0_.mk (bD_ BK345.out)
         have n7_:=A0_.mk (bD_ BK346.out)
         have n8_:=A0_.mk (bD_ BK352.out)
         have n9_:=A0_.mk (eD_ HB.out)
         clear HO335
         clear HO338
         clear HO341
         clear HO349
         clear BK326
         clear BK327
         clear BK345
         clear BK346
         clear BK352
         clear HB
         have HO335:=n0_
         have HO338:=n1_
         have HO341:=n2_
         have HO349:=n3_
         have BK326:=n4_
         have BK327:=n5_
         have BK345:=n6_
         have BK346:=n7_
         have BK352:=n8_
         have HB:=n9_
         clear n0_ n1_ n2_ n3_ n4_ n5_ n6_ n7_ n8_ n9_
         obtain ⟨Aq354,cq354,eq354⟩:=Kd.R_slice HO349.out
         subst eq354
         have p354 : 0 ≤ (0 : Int):=(by omega)
         have q354 : 0 < (t347.length : Int):=of_decide_eq_true (by first|(with_reducible assumption)|assumption)
         obtain ⟨ad354,A354_1,c354_1,A354_2,c354_2,A354_3,c354_3,e354,hx354_0,hx354_1,hx354_2,hx354_3,hx354_4,hl354_1,hi354_1,hl354_2,hi354_2,hl354_3,hi354_3⟩:=at_T28 (Kd.R_reads' HO349.out).2.2 0 p354 q354
         cases e354
         obtain ⟨ce354,hce354,hMe354,hcc354⟩:=Kd.R_get HO349.out z28 0 p354 (by first|exact q354|exact of_decide_eq_true (by first|(with_reducible assumption)|assumption)|(have e_:=(Kd.R_reads' HO349.out).1;omega))
         obtain ⟨ve354_1,ve354_2,ve354_3,rfl,ge354_1,ge354_2,ge354_3⟩:=k28_openM hMe354
         have hv354_1:=hcc354 1 _ rfl
         rw [add_field _ _ 1 (by omega)] at hv354_1
         replace hv354_1:=Option.some.inj (hv354_1.symm.trans hx354_1)
         rw [hv354_1] at ge354_1
         have HL354_1:=A0_.mk (show Kd.R k83 83 _ _ _ _ ((rd_T28 t347 0).f1) from ge354_1)
         clear hv354_1 ge354_1
         have hv354_2:=hcc354 2 _ rfl
         rw [add_field _ _ 2 (by omega)] at hv354_2
         replace hv354_2:=Option.some.inj (hv354_2.symm.trans hx354_2)
         rw [hv354_2] at ge354_2
         have HL354_2:=A0_.mk (show Kd.R Kd.bool 4 _ _ _ _ ((rd_T28 t347 0).f2.f0) from ge354_2)
         clear hv354_2 ge354_2
         have hv354_3:=hcc354 3 _ rfl
         rw [add_field _ _ 3 (by omega)] at hv354_3
         replace hv354_3:=Option.some.inj (hv354_3.symm.trans hx354_3)
         rw [hv354_3] at ge354_3
         have HL354_3:=A0_.mk (show Kd.R (Kd.slice 4 Kd.bool) 23 _ _ _ _ ((rd_T28 t347 0).f2.f1) from ge354_3)
         clear hv354_3 ge354_3
         clear hcc354 hce354
         have qi354 : (0 < t347.length) = True:=eq_true (by omega)
         (try rw [show ((0 : Int)).toNat = 0 from rfl] at hx354_0)
         (try rw [show 0 * 5 = 0 from rfl] at hx354_0)
         (try rw [Addr.add_zero'] at hx354_0)
         (try rw [show ((0 : Int)).toNat = 0 from rfl] at hx354_1)
         (try rw [show 0 * 5 = 0 from rfl] at hx354_1)
         (try rw [Addr.add_zero'] at hx354_1)
         (try rw [show ((0 : Int)).toNat = 0 from rfl] at hx354_2)
         (try rw [show 0 * 5 = 0 from rfl] at hx354_2)
         (try rw [Addr.add_zero'] at hx354_2)
         (try rw [show ((0 : Int)).toNat = 0 from rfl] at hx354_3)
         (try rw [show 0 * 5 = 0 from rfl] at hx354_3)
         (try rw [Addr.add_zero'] at hx354_3)
         (try rw [show ((0 : Int)).toNat = 0 from rfl] at hx354_4)
         (try rw [show 0 * 5 = 0 from rfl] at hx354_4)
         (try rw [Addr.add_zero'] at hx354_4)
         have HR354_1:=A0_.mk hi354_1
         have HC354_1:=A0_.mk hl354_1
         clear hi354_1 hl354_1
         have HR354_2:=A0_.mk hi354_2
         have HC354_2:=A0_.mk hl354_2
         clear hi354_2 hl354_2
         have HR354_3:=A0_.mk hi354_3
         have HC354_3:=A0_.mk hl354_3
         clear hi354_3 hl354_3
         replace p354:=eq_true p354
         replace q354:=eq_true q354
         refine start_ (n:=30) (S:=fun w' => w'.cell? ⟨gb346,0,none⟩ = some (.int .i64 t343) ∧ w'.cell? ⟨gb346,1,none⟩ = some (.int .i64 t344) ∧ w'.cell? ⟨gb345,0,none⟩ = some (.int .i64 t332) ∧ w'.cell? ⟨gb345,1,none⟩ = some (.slice Ao36 t333.length co36) ∧ w'.cell? ⟨gb345,2,none⟩ = some (.slice Ao37 t336.length co37) ∧ w'.cell? ⟨gb345,3,none⟩ = some (.slice Ao38 t339.length co38) ∧ w'.cell? ⟨gb345,4,none⟩ = some (.int .i64 t342) ∧ w'.cell? ⟨gb326,0,none⟩ = some (.int .i64 a0_0) ∧ w'.cell? ⟨gb326,1,none⟩ = some (.slice A0_1 l0_1.length c0_1) ∧ w'.cell? ⟨gb326,2,none⟩ = some (.slice A0_2 l0_2.length c0_2) ∧ w'.cell? ⟨gb326,3,none⟩ = some (.slice A0_3 l0_3.length c0_3) ∧ w'.cell? ⟨gb326,4,none⟩ = some (.int .i64 a0_4) ∧ w'.cell? ⟨gb352,0,none⟩ = some (.int .i64 t350) ∧ w'.cell? ⟨gb352,1,none⟩ = some (.int .i64 t351) ∧ w'.cell? ad354 = some (.int .i64 ((rd_T28 t347 0).f0)) ∧ w'.cell? ⟨ad354.block,ad354.off + 1,none⟩ = some (.slice A354_1 ((rd_T28 t347 0).f1).length c354_1) ∧ w'.cell? ⟨ad354.block,ad354.off + 2,none⟩ = some (.slice A354_2 ((rd_T28 t347 0).f2.f0).length c354_2) ∧ w'.cell? ⟨ad354.block,ad354.off + 3,none⟩ = some (.slice A354_3 ((rd_T28 t347 0).f2.f1).length c354_3) ∧ w'.cell? ⟨ad354.block,ad354.off + 4,none⟩ = some (.int .i64 ((rd_T28 t347 0).f2.f2))) (ds:=[]) #[false,false,false,false,false,false,false,false,false,false,false,false,false,false,false,false,false,false,false,false,false,false,false,false,false,false,false,false,false,false] (by kernel_rfl) rfl rfl ⟨(bC_ BK346.out 0).trans rfl,(bC_ BK346.out 1).trans rfl,(bC_ BK345.out 0).trans rfl,(bC_ BK345.out 1).trans rfl,(bC_ BK345.out 2).trans rfl,(bC_ BK345.out 3).trans rfl,(bC_ BK345.out 4).trans rfl,(bC_ BK326.out 0).trans rfl,(bC_ BK326.out 1).trans rfl,(bC_ BK326.out 2).trans rfl,(bC_ BK326.out 3).trans rfl,(bC_ BK326.out 4).trans rfl,(bC_ BK352.out 0).trans rfl,(bC_ BK352.out 1).trans rfl,hx354_0,hx354_1,hx354_2,hx354_3,hx354_4⟩ (fun hHeld => ?_);refine with_tabW trestlelaw12_StimBack.tab9 trestlelaw12_StimBack.bits9 (fun HT_ HW_ => ?_)
         generalize w50.drew = w51 at HO335 HO338 HO341 HO349 BK326 BK327 BK345 BK346 BK352 HB HL354_1 HL354_2 HL354_3 HR354_1 HR354_2 HR354_3 hx354_0 hx354_1 hx354_2 hx354_3 hx354_4 hHeld ⊢
         refine pure_ (i:=0) (N:=some 64) (v:=?_) (a':=?_) #[true,false,false,false,false,false,false,false,false,false,false,false,false,false,false,false,false,false,false,false,false,false,false,false,false,false,false,false,false,false] rfl rfl (any_of HT_.out (by kernel_rfl)) (fun _ _ _ h => h) (Or.inl ⟨by rfl,?_⟩) ?_ ?_
         rotate_left
         ·intro w'
          go_simp
          with_reducible rfl
         rotate_left
         ·simp only [Act.put,List.setIfInBounds_toArray,List.set_cons_zero,List.set_cons_succ,i64_w,i32_w]
          rfl
         refine pure_ (i:=1) (N:=some 65) (v:=?_) (a':=?_) #[true,true,false,false,false,false,false,false,false,false,false,false,false,false,false,false,false,false,false,false,false,false,false,false,false,false,false,false,false,false] rfl rfl (any_of HT_.out (by kernel_rfl)) (fun _ _ _ h => h) (Or.inl ⟨by rfl,?_⟩) ?_ ?_
         rotate_left
         ·intro w'
          go_simp
          with_reducible rfl
         rotate_left
         ·simp only [Act.put,List.setIfInBounds_toArray,List.set_cons_zero,List.set_cons_succ,i64_w,i32_w]
          rfl
         refine pure_ (i:=2) (N:=some 66) (v:=?_) (a':=?_) #[true,true,true,false,false,false,false,false,false,false,false,false,false,false,false,false,false,false,false,false,false,false,false,false,false,false,false,false,false,false] rfl rfl (any_of HT_.out (by kernel_rfl)) (fun _ _ _ h => h) (Or.inl ⟨by rfl,?_⟩) ?_ ?_
         rotate_left
         ·intro w'
          go_simp
          with_reducible rfl
         rotate_left
         ·simp only [Act.put,List.setIfInBounds_toArray,List.set_cons_zero,List.set_cons_succ,i64_w,i32_w]
          rfl
         refine pure_ (i:=4) (N:=some 68) (v:=?_) (a':=?_) #[true,true,true,false,true,false,false,false,false,false,false,false,false,false,false,false,false,false,false,false,false,false,false,false,false,false,false,false,false,false] rfl rfl (any_of HT_.out (by kernel_rfl)) (fun _ _ _ h => h) (Or.inl ⟨by rfl,?_⟩) ?_ ?_
         rotate_left
         ·intro w'
          go_simp
          with_reducible rfl
         rotate_left
         ·simp only [Act.put,List.setIfInBounds_toArray,List.set_cons_zero,List.set_cons_succ,i64_w,i32_w]
          rfl
         refine take_ (i:=3) (N:=some 67) (v:=?_) (a':=?_) #[true,true,true,true,true,false,false,false,false,false,false,false,false,false,false,false,false,false,false,false,false,false,false,false,false,false,false,false,false,false] rfl rfl (take_ofW HT_.out HW_.out (by kernel_rfl)) (fun _ _ _ h => h) (Or.inl ⟨by rfl,?_⟩) hHeld ?_ ?_
         rotate_left
         ·rintro w' ⟨s0,s1,s2,s3,s4,s5,s6,s7,s8,s9,s10,s11,s12,s13,s14,s15,s16,s17,s18⟩
          go_simp
          with_reducible rfl
         rotate_left
         ·simp only [Act.put,List.setIfInBounds_toArray,List.set_cons_zero,List.set_cons_succ,i64_w,i32_w]
          rfl
         refine pure_ (i:=5) (N:=some 69) (v:=?_) (a':=?_) #[true,true,true,true,true,true,false,false,false,false,false,false,false,false,false,false,false,false,false,false,false,false,false,false,false,false,false,false,false,false] rfl rfl (any_of HT_.out (by kernel_rfl)) (fun _ _ _ h => h) (Or.inl ⟨by rfl,?_⟩) ?_ ?_
         rotate_left
         ·intro w'
          go_simp
          with_reducible rfl
         rotate_left
         ·simp only [Act.put,List.setIfInBounds_toArray,List.set_cons_zero,List.set_cons_succ,i64_w,i32_w]
          rfl
         refine pure_ (i:=6) (N:=some 70) (v:=?_) (a':=?_) #[true,true,true,true,true,true,true,false,false,false,false,false,false,false,false,false,false,false,false,false,false,false,false,false,false,false,false,false,false,false] rfl rfl (any_of HT_.out (by kernel_rfl)) (fun _ _ _ h => h) (Or.inl ⟨by rfl,?_⟩) ?_ ?_
         rotate_left
         ·intro w'
          go_simp
          with_reducible rfl
         rotate_left
         ·simp only [Act.put,List.setIfInBounds_toArray,List.set_cons_zero,List.set_cons_succ,i64_w,i32_w]
          rfl
         refine pure_ (i:=7) (N:=some 71) (v:=?_) (a':=?_) #[true,true,true,true,true,true,true,true,false,false,false,false,false,false,false,false,false,false,false,false,false,false,false,false,false,false,false,false,false,false] rfl rfl (any_of HT_.out (by kernel_rfl)) (fun _ _ _ h => h) (Or.inl ⟨by rfl,?_⟩) ?_ ?_
         rotate_left
         ·intro w'
          go_simp
          with_reducible rfl
         rotate_left
         ·simp only [Act.put,List.setIfInBounds_toArray,List.set_cons_zero,List.set_cons_succ,i64_w,i32_w]
          rfl
         refine take_ (i:=8) (N:=some 72) (v:=?_) (a':=?_) #[true,true,true,true,true,true,true,true,true,false,false,false,false,false,false,false,false,false,false,false,false,false,false,false,false,false,false,false,false,false] rfl rfl (take_ofW HT_.out HW_.out (by kernel_rfl)) (fun _ _ _ h => h) (Or.inl ⟨by rfl,?_⟩) hHeld ?_ ?_
         rotate_left
         ·rintro w' ⟨s0,s1,s2,s3,s4,s5,s6,s7,s8,s9,s10,s11,s12,s13,s14,s15,s16,s17,s18⟩
          go_simp
          with_reducible rfl
         rotate_left
         ·simp only [Act.put,List.setIfInBounds_toArray,List.set_cons_zero,List.set_cons_succ,i64_w,i32_w]
          rfl
         refine take_ (i:=9) (N:=some 73) (v:=?_) (a':=?_) #[true,true,true,true,true,true,true,true,true,true,false,false,false,false,false,false,false,false,false,false,false,false,false,false,false,false,false,false,false,false] rfl rfl (take_ofW HT_.out HW_.out (by kernel_rfl)) (fun _ _ _ h => h) (Or.inl ⟨by rfl,?_⟩) hHeld ?_ ?_
         rotate_left
         ·rintro w' ⟨s0,s1,s2,s3,s4,s5,s6,s7,s8,s9,s10,s11,s12,s13,s14,s15,s16,s17,s18⟩
          go_simp
          with_reducible rfl
         rotate_left
         ·simp only [Act.put,List.setIfInBounds_toArray,List.set_cons_zero,List.set_cons_succ,i64_w,i32_w]
          rfl
         refine one_ (i:=10) (N:=some 74) #[true,true,true,true,true,true,true,true,true,true,true,false,false,false,false,false,false,false,false,false,false,false,false,false,false,false,false,false,false,false] rfl rfl (one_of HT_.out (by kernel_rfl)) (by decide) (fun K hK => ?_)
         refine goes_ Tryd.func17 (by kernel_rfl) rfl #[.agg #[.int .i64 t332,.slice Ao36 t333.length co36,.slice Ao37 t336.length co37,.slice Ao38 t339.length co38,.int .i64 t342],.agg #[.int .i64 a0_0,.slice A0_1 l0_1.length c0_1,.slice A0_2 l0_2.length c0_2,.slice A0_3 l0_3.length c0_3,.int .i64 a0_4]] (by rfl) rfl rfl (by (try simp only [List.map_toArray,List.map_cons,List.map_nil]);first|done|rfl|(simp only [List.length_drop,List.length_take];rfl)) ?_
         with_reducible refine (trestlelaw12_same.calls k t332 _ _ t333 _ _ t336 _ _ t339 t342 a0_0 _ _ l0_1 _ _ l0_2 _ _ l0_3 a0_4 true _ ?side1 ?side2 ?side3 ?side4 ?side5 ?side6 ?side7 ?side8 ?side9 ?side10 ?side11 ?side12 A12.out).mono ?_
         (case side1 => repeat (first|exact (Kd.R_reads' HO335.out).2.2|(with_reducible refine Kd.C_alloc ?_ _)|(with_reducible refine Kd.C_drewN ?_ _)|(with_reducible refine Kd.C_drew ?_)))
         (case side2 => exact (Kd.R_reads' HO335.out).2.1)
         (case side3 => repeat (first|exact (Kd.R_reads' HO338.out).2.2|(with_reducible refine Kd.C_alloc ?_ _)|(with_reducible refine Kd.C_drewN ?_ _)|(with_reducible refine Kd.C_drew ?_)))
         (case side4 => exact (Kd.R_reads' HO338.out).2.1)
         (case side5 => repeat (first|exact (Kd.S_reads' HO341.out).2.2|(with_reducible refine Kd.C_alloc ?_ _)|(with_reducible refine Kd.C_drewN ?_ _)|(with_reducible refine Kd.C_drew ?_)))
         (case side6 => exact (Kd.S_reads' HO341.out).2.1)
         (case side7 => repeat (first|exact (Kd.C_below HR0_1.out HB.out)|(with_reducible refine Kd.C_alloc ?_ _)|(with_reducible refine Kd.C_drewN ?_ _)|(with_reducible refine Kd.C_drew ?_)))
         (case side8 => exact HC0_1.out)
         (case side9 => repeat (first|exact (Kd.C_below HR0_2.out HB.out)|(with_reducible refine Kd.C_alloc ?_ _)|(with_reducible refine Kd.C_drewN ?_ _)|(with_reducible refine Kd.C_drew ?_)))
         (case side10 => exact HC0_2.out)
         (case side11 => repeat (first|exact (Kd.C_below HR0_3.out HB.out)|(with_reducible refine Kd.C_alloc ?_ _)|(with_reducible refine Kd.C_drewN ?_ _)|(with_reducible refine Kd.C_drew ?_)))
         (case side12 => exact HC0_3.out)
         rintro e w52 ⟨rfl,hb⟩
         replace HR354_1:=A0_.mk (Kd.C_below HR354_1.out hb)
         replace HR354_2:=A0_.mk (Kd.C_below HR354_2.out hb)
         replace HR354_3:=A0_.mk (Kd.C_below HR354_3.out hb)
         replace HL354_1:=A0_.mk (Kd.R_below HL354_1.out hb)
         replace HL354_2:=A0_.mk (Kd.R_below HL354_2.out hb)
         replace HL354_3:=A0_.mk (Kd.R_below HL354_3.out hb)
         have HS14_:=(hb.cell (World.block_lt_of_cell? _ _ (hHeld.2.2.2.2.2.2.2.2.2.2.2.2.2.2.1))).trans (hHeld.2.2.2.2.2.2.2.2.2.2.2.2.2.2.1)
         have HS15_:=(hb.cell (World.block_lt_of_cell? _ _ (hHeld.2.2.2.2.2.2.2.2.2.2.2.2.2.2.2.1))).trans (hHeld.2.2.2.2.2.2.2.2.2.2.2.2.2.2.2.1)
         have HS16_:=(hb.cell (World.block_lt_of_cell? _ _ (hHeld.2.2.2.2.2.2.2.2.2.2.2.2.2.2.2.2.1))).trans (hHeld.2.2.2.2.2.2.2.2.2.2.2.2.2.2.2.2.1)
         have HS17_:=(hb.cell (World.block_lt_of_cell? _ _ (hHeld.2.2.2.2.2.2.2.2.2.2.2.2.2.2.2.2.2.1))).trans (hHeld.2.2.2.2.2.2.2.2.2.2.2.2.2.2.2.2.2.1)
         have HS18_:=(hb.cell (World.block_lt_of_cell? _ _ (hHeld.2.2.2.2.2.2.2.2.2.2.2.2.2.2.2.2.2.2))).trans (hHeld.2.2.2.2.2.2.2.2.2.2.2.2.2.2.2.2.2.2)
         refine ⟨_,rfl,?_⟩
         have n0_:=A0_.mk (Kd.R_below (by (with_reducible repeat (first|apply Kd.R_alloc|apply Kd.R_drewN|apply Kd.R_drew));exact HO335.out) hb)
         have n1_:=A0_.mk (Kd.R_below (by (with_reducible repeat (first|apply Kd.R_alloc|apply Kd.R_drewN|apply Kd.R_drew));exact HO338.out) hb)
         have n2_:=A0_.mk (Kd.S_below (by (with_reducible repeat (first|apply Kd.S_alloc|apply Kd.S_drewN|apply Kd.S_drew));exact HO341.out) hb)
         have n3_:=A0_.mk (Kd.R_below (by (with_reducible repeat (first|apply Kd.R_alloc|apply Kd.R_drewN|apply Kd.R_drew));exact HO349.out) hb)
         have n4_:=A0_.mk (blk_below (g:=gb326) (o:=.cells #[.int .i64 a0_0,.slice A0_1 l0_1.length c0_1,.slice A0_2 l0_2.length c0_2,.slice A0_3 l0_3.length c0_3,.int .i64 a0_4] 28 (0,0)) (by (with_reducible repeat (first|refine bN_ ?_ _|refine bD_ ?_|refine bA_ ?_ _));exact BK326.out) hb)
         have n5_:=A0_.mk (blk_below (g:=gb327) (o:=.cells #[.int .i64 a1_0,.int .i64 a1_1] 30 (0,0)) (by (with_reducible repeat (first|refine bN_ ?_ _|refine bD_ ?_|refine bA_ ?_ _));exact BK327.out) hb)
         have n6_:=A0_.mk (blk_below (g:=gb345) (o:=.cells #[.int .i64 t332,.slice Ao36 t333.length co36,.slice Ao37 t336.length co37,.slice Ao38 t339.length co38,.int .i64 t342] 28 (0,0)) (by (with_reducible repeat (first|refine bN_ ?_ _|refine bD_ ?_|refine bA_ ?_ _));exact BK345.out) hb)
         have n7_:=A0_.mk (blk_below (g:=gb346) (o:=.cells #[.int .i64 t343,.int .i64 t344] 40 (0,0)) (by (with_reducible repeat (first|refine bN_ ?_ _|refine bD_ ?_|refine bA_ ?_ _));exact BK346.out) hb)
         have n8_:=A0_.mk (blk_below (g:=gb352) (o:=.cells #[.int .i64 t350,.int .i64 t351] 40 (0,0)) (by (with_reducible repeat (first|refine bN_ ?_ _|refine bD_ ?_|refine bA_ ?_ _));exact BK352.out) hb)
         have n9_:=A0_.mk (below_step (by repeat (first|(with_reducible first|exact HB.out|apply eA_|apply eN_|apply eD_|refine eS_ ?_ GE326.out|refine eS_ ?_ GE327.out|refine eS_ ?_ GE345.out|refine eS_ ?_ GE346.out|refine eS_ ?_ GE352.out)|exact HB.out)) hb)
         clear HO335
         clear HO338
         clear HO341
         clear HO349
         clear BK326
         clear BK327
         clear BK345
         clear BK346
         clear BK352
         clear HB
         have HO335:=n0_
         have HO338:=n1_
         have HO341:=n2_
         have HO349:=n3_
         have BK326:=n4_
         have BK327:=n5_
         have BK345:=n6_
         have BK346:=n7_
         have BK352:=n8_
         have HB:=n9_
         clear n0_ n1_ n2_ n3_ n4_ n5_ n6_ n7_ n8_ n9_
         (try clear hb)
         (try clear hb2)
         (try clear hk)
         (try clear hi)
         obtain ⟨Ao53,co53,eo53⟩:=Kd.R_slice HO349.out
         (first|subst eo53|(injection eo53 with f1_ f2_ f3_;have f4_:=f1_.symm;have f5_:=f3_.symm;clear f1_ f2_ f3_;subst f4_;subst f5_))
         refine hK.out _ _ ⟨(bC_ BK346.out 0).trans rfl,(bC_ BK346.out 1).trans rfl,(bC_ BK345.out 0).trans rfl,(bC_ BK345.out 1).trans rfl,(bC_ BK345.out 2).trans rfl,(bC_ BK345.out 3).trans rfl,(bC_ BK345.out 4).trans rfl,(bC_ BK326.out 0).trans rfl,(bC_ BK326.out 1).trans rfl,(bC_ BK326.out 2).trans rfl,(bC_ BK326.out 3).trans rfl,(bC_ BK326.out 4).trans rfl,(bC_ BK352.out 0).trans rfl,(bC_ BK352.out 1).trans rfl,HS14_,HS15_,HS16_,HS17_,HS18_⟩ (fun hHeld => ?_)
         clear hK K
         refine norm_ (a':=?_) ?_ ?_
         rotate_left
         ·show Act.put _ (some 74) _ = _
          simp only [Act.put,List.setIfInBounds_toArray,List.set_cons_zero,List.set_cons_succ,i64_w,i32_w]
          rfl
         refine pure_ (i:=11) (N:=some 75) (v:=?_) (a':=?_) #[true,true,true,true,true,true,true,true,true,true,true,true,false,false,false,false,false,false,false,false,false,false,false,false,false,false,false,false,false,false] rfl rfl (any_of HT_.out (by kernel_rfl)) (fun _ _ _ h => h) (Or.inl ⟨by rfl,?_⟩) ?_ ?_
         rotate_left
         ·intro w'
          go_simp
          with_reducible rfl
         rotate_left
         ·simp only [Act.put,List.setIfInBounds_toArray,List.set_cons_zero,List.set_cons_succ,i64_w,i32_w]
          rfl
         refine pure_ (i:=12) (N:=some 76) (v:=?_) (a':=?_) #[true,true,true,true,true,true,true,true,true,true,true,true,true,false,false,false,false,false,false,false,false,false,false,false,false,false,false,false,false,false] rfl rfl (any_of HT_.out (by kernel_rfl)) (fun _ _ _ h => h) (Or.inl ⟨by rfl,?_⟩) ?_ ?_
         rotate_left
         ·intro w'
          go_simp
          with_reducible rfl
         rotate_left
         ·simp only [Act.put,List.setIfInBounds_toArray,List.set_cons_zero,List.set_cons_succ,i64_w,i32_w]
          rfl
         refine pure_ (i:=14) (N:=some 78) (v:=?_) (a':=?_) #[true,true,true,true,true,true,true,true,true,true,true,true,true,false,true,false,false,false,false,false,false,false,false,false,false,false,false,false,false,false] rfl rfl (any_of HT_.out (by kernel_rfl)) (fun _ _ _ h => h) (Or.inl ⟨by rfl,?_⟩) ?_ ?_
         rotate_left
         ·intro w'
          go_simp
          with_reducible rfl
         rotate_left
         ·simp only [Act.put,List.setIfInBounds_toArray,List.set_cons_zero,List.set_cons_succ,i64_w,i32_w]
          rfl
         refine take_ (i:=13) (N:=some 77) (v:=?_) (a':=?_) #[true,true,true,true,true,true,true,true,true,true,true,true,true,true,true,false,false,false,false,false,false,false,false,false,false,false,false,false,false,false] rfl rfl (take_ofW HT_.out HW_.out (by kernel_rfl)) (fun _ _ _ h => h) (Or.inl ⟨by rfl,?_⟩) hHeld ?_ ?_
         rotate_left
         ·rintro w' ⟨s0,s1,s2,s3,s4,s5,s6,s7,s8,s9,s10,s11,s12,s13,s14,s15,s16,s17,s18⟩
          go_simp
          with_reducible rfl
         rotate_left
         ·simp only [Act.put,List.setIfInBounds_toArray,List.set_cons_zero,List.set_cons_succ,i64_w,i32_w]
          rfl
         refine pure_ (i:=15) (N:=some 79) (v:=?_) (a':=?_) #[true,true,true,true,true,true,true,true,true,true,true,true,true,true,true,true,false,false,false,false,false,false,false,false,false,false,false,false,false,false] rfl rfl (any_of HT_.out (by kernel_rfl)) (fun _ _ _ h => h) (Or.inl ⟨by rfl,?_⟩) ?_ ?_
         rotate_left
         ·intro w'
          go_simp
          with_reducible rfl
         rotate_left
         ·simp only [Act.put,List.setIfInBounds_toArray,List.set_cons_zero,List.set_cons_succ,i64_w,i32_w]
          rfl
         refine pure_ (i:=16) (N:=some 80) (v:=?_) (a':=?_) #[true,true,true,true,true,true,true,true,true,true,true,true,true,true,true,true,true,false,false,false,false,false,false,false,false,false,false,false,false,false] rfl rfl (any_of HT_.out (by kernel_rfl)) (fun _ _ _ h => h) (Or.inl ⟨by rfl,?_⟩) ?_ ?_
         rotate_left
         ·intro w'
          go_simp
          with_reducible rfl
         rotate_left
         ·simp only [Act.put,List.setIfInBounds_toArray,List.set_cons_zero,List.set_cons_succ,i64_w,i32_w]
          rfl
         refine pure_ (i:=17) (N:=some 81) (v:=?_) (a':=?_) #[true,true,true,true,true,true,true,true,true,true,true,true,true,true,true,true,true,true,false,false,false,false,false,false,false,false,false,false,false,false] rfl rfl (any_of HT_.out (by kernel_rfl)) (fun _ _ _ h => h) (Or.inl ⟨by rfl,?_⟩) ?_ ?_
         rotate_left
         ·intro w'
          go_simp
          with_reducible rfl
         rotate_left
         ·simp only [Act.put,List.setIfInBounds_toArray,List.set_cons_zero,List.set_cons_succ,i64_w,i32_w]
          rfl
         refine pure_ (i:=18) (N:=some 82) (v:=?_) (a':=?_) #[true,true,true,true,true,true,true,true,true,true,true,true,true,true,true,true,true,true,true,false,false,false,false,false,false,false,false,false,false,false] rfl rfl (any_of HT_.out (by kernel_rfl)) (fun _ _ _ h => h) (Or.inl ⟨by rfl,?_⟩) ?_ ?_
         rotate_left
         ·intro w'
          go_simp
          with_reducible rfl
         rotate_left
         ·simp only [Act.put,List.setIfInBounds_toArray,List.set_cons_zero,List.set_cons_succ,i64_w,i32_w]
          rfl
         refine pure_ (i:=19) (N:=some 83) (v:=?_) (a':=?_) #[true,true,true,true,true,true,true,true,true,true,true,true,true,true,true,true,true,true,true,true,false,false,false,false,false,false,false,false,false,false] rfl rfl (any_of HT_.out (by kernel_rfl)) (fun _ _ _ h => h) (Or.inl ⟨by rfl,?_⟩) ?_ ?_
         rotate_left
         ·intro w'
          go_simp
          with_reducible rfl
         rotate_left
         ·simp only [Act.put,List.setIfInBounds_toArray,List.set_cons_zero,List.set_cons_succ,i64_w,i32_w]
          rfl
         refine pure_ (i:=20) (N:=some 84) (v:=?_) (a':=?_) #[true,true,true,true,true,true,true,true,true,true,true,true,true,true,true,true,true,true,true,true,true,false,false,false,false,false,false,false,false,false] rfl rfl (any_of HT_.out (by kernel_rfl)) (fun _ _ _ h => h) (Or.inl ⟨by rfl,?_⟩) ?_ ?_
         rotate_left
         ·intro w'
          go_simp
          with_reducible rfl
         rotate_left
         ·simp only [Act.put,List.setIfInBounds_toArray,List.set_cons_zero,List.set_cons_succ,i64_w,i32_w]
          rfl
         refine pure_ (i:=21) (N:=some 85) (v:=?_) (a':=?_) #[true,true,true,true,true,true,true,true,true,true,true,true,true,true,true,true,true,true,true,true,true,true,false,false,false,false,false,false,false,false] rfl rfl (any_of HT_.out (by kernel_rfl)) (fun _ _ _ h => h) (Or.inl ⟨by rfl,?_⟩) ?_ ?_
         rotate_left
         ·intro w'
          go_simp
          with_reducible rfl
         rotate_left
         ·simp only [Act.put,List.setIfInBounds_toArray,List.set_cons_zero,List.set_cons_succ,i64_w,i32_w]
          rfl
         refine pure_ (i:=22) (N:=some 86) (v:=?_) (a':=?_) #[true,true,true,true,true,true,true,true,true,true,true,true,true,true,true,true,true,true,true,true,true,true,true,false,false,false,false,false,false,false] rfl rfl (any_of HT_.out (by kernel_rfl)) (fun _ _ _ h => h) (Or.inl ⟨by rfl,?_⟩) ?_ ?_
         rotate_left
         ·intro w'
          go_simp
          with_reducible rfl
         rotate_left
         ·simp only [Act.put,List.setIfInBounds_toArray,List.set_cons_zero,List.set_cons_succ,i64_w,i32_w]
          rfl
         refine pure_ (i:=23) (N:=some 87) (v:=?_) (a':=?_) #[true,true,true,true,true,true,true,true,true,true,true,true,true,true,true,true,true,true,true,true,true,true,true,true,false,false,false,false,false,false] rfl rfl (any_of HT_.out (by kernel_rfl)) (fun _ _ _ h => h) (Or.inl ⟨by rfl,?_⟩) ?_ ?_
         rotate_left
         ·intro w'
          go_simp
          with_reducible rfl
         rotate_left
         ·simp only [Act.put,List.setIfInBounds_toArray,List.set_cons_zero,List.set_cons_succ,i64_w,i32_w]
          rfl
         refine pure_ (i:=24) (N:=some 88) (v:=?_) (a':=?_) #[true,true,true,true,true,true,true,true,true,true,true,true,true,true,true,true,true,true,true,true,true,true,true,true,true,false,false,false,false,false] rfl rfl (any_of HT_.out (by kernel_rfl)) (fun _ _ _ h => h) (Or.inl ⟨by rfl,?_⟩) ?_ ?_
         rotate_left
         ·intro w'
          go_simp
          with_reducible rfl
         rotate_left
         ·simp only [Act.put,List.setIfInBounds_toArray,List.set_cons_zero,List.set_cons_succ,i64_w,i32_w]
          rfl
         refine take_ (i:=25) (N:=some 89) (v:=?_) (a':=?_) #[true,true,true,true,true,true,true,true,true,true,true,true,true,true,true,true,true,true,true,true,true,true,true,true,true,true,false,false,false,false] rfl rfl (take_ofW HT_.out HW_.out (by kernel_rfl)) (fun _ _ _ h => h) (Or.inl ⟨by rfl,?_⟩) hHeld ?_ ?_
         rotate_left
         ·rintro w' ⟨s0,s1,s2,s3,s4,s5,s6,s7,s8,s9,s10,s11,s12,s13,s14,s15,s16,s17,s18⟩
          go_simp
          with_reducible rfl
         rotate_left
         ·simp only [Act.put,List.setIfInBounds_toArray,List.set_cons_zero,List.set_cons_succ,i64_w,i32_w]
          rfl
         refine take_ (i:=26) (N:=some 90) (v:=?_) (a':=?_) #[true,true,true,true,true,true,true,true,true,true,true,true,true,true,true,true,true,true,true,true,true,true,true,true,true,true,true,false,false,false] rfl rfl (take_ofW HT_.out HW_.out (by kernel_rfl)) (fun _ _ _ h => h) (Or.inl ⟨by rfl,?_⟩) hHeld ?_ ?_
         rotate_left
         ·rintro w' ⟨s0,s1,s2,s3,s4,s5,s6,s7,s8,s9,s10,s11,s12,s13,s14,s15,s16,s17,s18⟩
          go_simp
          with_reducible rfl
         rotate_left
         ·simp only [Act.put,List.setIfInBounds_toArray,List.set_cons_zero,List.set_cons_succ,i64_w,i32_w]
          rfl
         refine one_ (i:=27) (N:=some 91) #[true,true,true,true,true,true,true,true,true,true,true,true,true,true,true,true,true,true,true,true,true,true,true,true,true,true,true,true,false,false] rfl rfl (one_of HT_.out (by kernel_rfl)) (by decide) (fun K hK => ?_)
         refine goes_ Tryd.func17 (by kernel_rfl) rfl #[.agg #[.int .i64 ((rd_T28 t347 0).f0),.slice A354_1 ((rd_T28 t347 0).f1).length c354_1,.slice A354_2 ((rd_T28 t347 0).f2.f0).length c354_2,.slice A354_3 ((rd_T28 t347 0).f2.f1).length c354_3,.int .i64 ((rd_T28 t347 0).f2.f2)],.agg #[.int .i64 a0_0,.slice A0_1 l0_1.length c0_1,.slice A0_2 l0_2.length c0_2,.slice A0_3 l0_3.length c0_3,.int .i64 a0_4]] (by rfl) rfl rfl (by (try simp only [List.map_toArray,List.map_cons,List.map_nil]);first|done|rfl|(simp only [List.length_drop,List.length_take];rfl)) ?_
         with_reducible refine (trestlelaw12_same.calls k ((rd_T28 t347 0).f0) _ _ ((rd_T28 t347 0).f1) _ _ ((rd_T28 t347 0).f2.f0) _ _ ((rd_T28 t347 0).f2.f1) ((rd_T28 t347 0).f2.f2) a0_0 _ _ l0_1 _ _ l0_2 _ _ l0_3 a0_4 t355 _ ?side1 ?side2 ?side3 ?side4 ?side5 ?side6 ?side7 ?side8 ?side9 ?side10 ?side11 ?side12 A17.out).mono ?_
         (case side1 => repeat (first|exact (by repeat (first|(with_reducible exact HR354_1.out)|(with_reducible refine Kd.C_alloc ?_ _)|(with_reducible refine Kd.C_drewN ?_ _)|(with_reducible refine Kd.C_drew ?_)|exact HR354_1.out))|(with_reducible refine Kd.C_alloc ?_ _)|(with_reducible refine Kd.C_drewN ?_ _)|(with_reducible refine Kd.C_drew ?_)))
         (case side2 => exact HC354_1.out)
         (case side3 => repeat (first|exact (by repeat (first|(with_reducible exact HR354_2.out)|(with_reducible refine Kd.C_alloc ?_ _)|(with_reducible refine Kd.C_drewN ?_ _)|(with_reducible refine Kd.C_drew ?_)|exact HR354_2.out))|(with_reducible refine Kd.C_alloc ?_ _)|(with_reducible refine Kd.C_drewN ?_ _)|(with_reducible refine Kd.C_drew ?_)))
         (case side4 => exact HC354_2.out)
         (case side5 => repeat (first|exact (by repeat (first|(with_reducible exact HR354_3.out)|(with_reducible refine Kd.C_alloc ?_ _)|(with_reducible refine Kd.C_drewN ?_ _)|(with_reducible refine Kd.C_drew ?_)|exact HR354_3.out))|(with_reducible refine Kd.C_alloc ?_ _)|(with_reducible refine Kd.C_drewN ?_ _)|(with_reducible refine Kd.C_drew ?_)))
         (case side6 => exact HC354_3.out)
         (case side7 => repeat (first|exact (Kd.C_below HR0_1.out HB.out)|(with_reducible refine Kd.C_alloc ?_ _)|(with_reducible refine Kd.C_drewN ?_ _)|(with_reducible refine Kd.C_drew ?_)))
         (case side8 => exact HC0_1.out)
         (case side9 => repeat (first|exact (Kd.C_below HR0_2.out HB.out)|(with_reducible refine Kd.C_alloc ?_ _)|(with_reducible refine Kd.C_drewN ?_ _)|(with_reducible refine Kd.C_drew ?_)))
         (case side10 => exact HC0_2.out)
         (case side11 => repeat (first|exact (Kd.C_below HR0_3.out HB.out)|(with_reducible refine Kd.C_alloc ?_ _)|(with_reducible refine Kd.C_drewN ?_ _)|(with_reducible refine Kd.C_drew ?_)))
         (case side12 => exact HC0_3.out)
         rintro e w54 ⟨rfl,hb⟩
         have HS14_:=(hb.cell (World.block_lt_of_cell? _ _ (hHeld.2.2.2.2.2.2.2.2.2.2.2.2.2.2.1))).trans (hHeld.2.2.2.2.2.2.2.2.2.2.2.2.2.2.1)
         have HS15_:=(hb.cell (World.block_lt_of_cell? _ _ (hHeld.2.2.2.2.2.2.2.2.2.2.2.2.2.2.2.1))).trans (hHeld.2.2.2.2.2.2.2.2.2.2.2.2.2.2.2.1)
         have HS16_:=(hb.cell (World.block_lt_of_cell? _ _ (hHeld.2.2.2.2.2.2.2.2.2.2.2.2.2.2.2.2.1))).trans (hHeld.2.2.2.2.2.2.2.2.2.2.2.2.2.2.2.2.1)
         have HS17_:=(hb.cell (World.block_lt_of_cell? _ _ (hHeld.2.2.2.2.2.2.2.2.2.2.2.2.2.2.2.2.2.1))).trans (hHeld.2.2.2.2.2.2.2.2.2.2.2.2.2.2.2.2.2.1)
         have HS18_:=(hb.cell (World.block_lt_of_cell? _ _ (hHeld.2.2.2.2.2.2.2.2.2.2.2.2.2.2.2.2.2.2))).trans (hHeld.2.2.2.2.2.2.2.2.2.2.2.2.2.2.2.2.2.2)
         refine ⟨_,rfl,?_⟩
         have n0_:=A0_.mk (Kd.R_below (by (with_reducible repeat (first|apply Kd.R_alloc|apply Kd.R_drewN|apply Kd.R_drew));exact HO335.out) hb)
         have n1_:=A0_.mk (Kd.R_below (by (with_reducible repeat (first|apply Kd.R_alloc|apply Kd.R_drewN|apply Kd.R_drew));exact HO338.out) hb)
         have n2_:=A0_.mk (Kd.S_below (by (with_reducible repeat (first|apply Kd.S_alloc|apply Kd.S_drewN|apply Kd.S_drew));exact HO341.out) hb)
         have n3_:=A0_.mk (Kd.R_below (by (with_reducible repeat (first|apply Kd.R_alloc|apply Kd.R_drewN|apply Kd.R_drew));exact HO349.out) hb)
         have n4_:=A0_.mk (Kd.R_below (by (with_reducible repeat (first|apply Kd.R_alloc|apply Kd.R_drewN|apply Kd.R_drew));exact HL354_1.out) hb)
         have n5_:=A0_.mk (Kd.R_below (by (with_reducible repeat (first|apply Kd.R_alloc|apply Kd.R_drewN|apply Kd.R_drew));exact HL354_2.out) hb)
         have n6_:=A0_.mk (Kd.R_below (by (with_reducible repeat (first|apply Kd.R_alloc|apply Kd.R_drewN|apply Kd.R_drew));exact HL354_3.out) hb)
         have n7_:=A0_.mk (blk_below (g:=gb326) (o:=.cells #[.int .i64 a0_0,.slice A0_1 l0_1.length c0_1,.slice A0_2 l0_2.length c0_2,.slice A0_3 l0_3.length c0_3,.int .i64 a0_4] 28 (0,0)) (by (with_reducible repeat (first|refine bN_ ?_ _|refine bD_ ?_|refine bA_ ?_ _));exact BK326.out) hb)
         have n8_:=A0_.mk (blk_below (g:=gb327) (o:=.cells #[.int .i64 a1_0,.int .i64 a1_1] 30 (0,0)) (by (with_reducible repeat (first|refine bN_ ?_ _|refine bD_ ?_|refine bA_ ?_ _));exact BK327.out) hb)
         have n9_:=A0_.mk (blk_below (g:=gb345) (o:=.cells #[.int .i64 t332,.slice Ao36 t333.length co36,.slice Ao37 t336.length co37,.slice Ao38 t339.length co38,.int .i64 t342] 28 (0,0)) (by (with_reducible repeat (first|refine bN_ ?_ _|refine bD_ ?_|refine bA_ ?_ _));exact BK345.out) hb)
         have n10_:=A0_.mk (blk_below (g:=gb346) (o:=.cells #[.int .i64 t343,.int .i64 t344] 40 (0,0)) (by (with_reducible repeat (first|refine bN_ ?_ _|refine bD_ ?_|refine bA_ ?_ _));exact BK346.out) hb)
         have n11_:=A0_.mk (blk_below (g:=gb352) (o:=.cells #[.int .i64 t350,.int .i64 t351] 40 (0,0)) (by (with_reducible repeat (first|refine bN_ ?_ _|refine bD_ ?_|refine bA_ ?_ _));exact BK352.out) hb)
         have n12_:=A0_.mk (Kd.C_below (by repeat (first|(with_reducible exact HR354_1.out)|(with_reducible refine Kd.C_alloc ?_ _)|(with_reducible refine Kd.C_drewN ?_ _)|(with_reducible refine Kd.C_drew ?_)|exact HR354_1.out)) hb)
         have n13_:=A0_.mk (Kd.C_below (by repeat (first|(with_reducible exact HR354_2.out)|(with_reducible refine Kd.C_alloc ?_ _)|(with_reducible refine Kd.C_drewN ?_ _)|(with_reducible refine Kd.C_drew ?_)|exact HR354_2.out)) hb)
         have n14_:=A0_.mk (Kd.C_below (by repeat (first|(with_reducible exact HR354_3.out)|(with_reducible refine Kd.C_alloc ?_ _)|(with_reducible refine Kd.C_drewN ?_ _)|(with_reducible refine Kd.C_drew ?_)|exact HR354_3.out)) hb)
         have n15_:=A0_.mk (below_step (by repeat (first|(with_reducible first|exact HB.out|apply eA_|apply eN_|apply eD_|refine eS_ ?_ GE326.out|refine eS_ ?_ GE327.out|refine eS_ ?_ GE345.out|refine eS_ ?_ GE346.out|refine eS_ ?_ GE352.out)|exact HB.out)) hb)
         clear HO335
         clear HO338
         clear HO341
         clear HO349
         clear HL354_1
         clear HL354_2
         clear HL354_3
         clear BK326
         clear BK327
         clear BK345
         clear BK346
         clear BK352
         clear HR354_1
         clear HR354_2
         clear HR354_3
         clear HB
         have HO335:=n0_
         have HO338:=n1_
         have HO341:=n2_
         have HO349:=n3_
         have HL354_1:=n4_
         have HL354_2:=n5_
         have HL354_3:=n6_
         have BK326:=n7_
         have BK327:=n8_
         have BK345:=n9_
         have BK346:=n10_
         have BK352:=n11_
         have HR354_1:=n12_
         have HR354_2:=n13_
         have HR354_3:=n14_
         have HB:=n15_
         clear n0_ n1_ n2_ n3_ n4_ n5_ n6_ n7_ n8_ n9_ n10_ n11_ n12_ n13_ n14_ n15_
         (try clear hb)
         (try clear hb2)
         (try clear hk)
         (try clear hi)
         refine hK.out _ _ ⟨(bC_ BK346.out 0).trans rfl,(bC_ BK346.out 1).trans rfl,(bC_ BK345.out 0).trans rfl,(bC_ BK345.out 1).trans rfl,(bC_ BK345.out 2).trans rfl,(bC_ BK345.out 3).trans rfl,(bC_ BK345.out 4).trans rfl,(bC_ BK326.out 0).trans rfl,(bC_ BK326.out 1).trans rfl,(bC_ BK326.out 2).trans rfl,(bC_ BK326.out 3).trans rfl,(bC_ BK326.out 4).trans rfl,(bC_ BK352.out 0).trans rfl,(bC_ BK352.out 1).trans rfl,HS14_,HS15_,HS16_,HS17_,HS18_⟩ (fun hHeld => ?_)
         clear hK K
         refine norm_ (a':=?_) ?_ ?_
         rotate_left
         ·show Act.put _ (some 91) _ = _
          simp only [Act.put,List.setIfInBounds_toArray,List.set_cons_zero,List.set_cons_succ,i64_w,i32_w]
          rfl
         refine pure_ (i:=28) (N:=some 92) (v:=?_) (a':=?_) #[true,true,true,true,true,true,true,true,true,true,true,true,true,true,true,true,true,true,true,true,true,true,true,true,true,true,true,true,true,false] rfl rfl (any_of HT_.out (by kernel_rfl)) (fun _ _ _ h => h) (Or.inl ⟨by rfl,?_⟩) ?_ ?_
         rotate_left
         ·intro w'
          go_simp
          with_reducible rfl
         rotate_left
         ·simp only [Act.put,List.setIfInBounds_toArray,List.set_cons_zero,List.set_cons_succ,i64_w,i32_w]
          rfl
         refine pure_ (i:=29) (N:=some 4) (v:=?_) (a':=?_) #[true,true,true,true,true,true,true,true,true,true,true,true,true,true,true,true,true,true,true,true,true,true,true,true,true,true,true,true,true,true] rfl rfl (any_of HT_.out (by kernel_rfl)) (fun _ _ _ h => h) (Or.inl ⟨by rfl,?_⟩) ?_ ?_
         rotate_left
         ·intro w'
          go_simp
          with_reducible rfl
         rotate_left
         ·simp only [Act.put,List.setIfInBounds_toArray,List.set_cons_zero,List.set_cons_succ,i64_w,i32_w]
          rfl
         refine done_ (done_of HT_.out (by kernel_rfl)) ?_
         try go_wp2
         go_ret
         exact ⟨by first|rfl|(simp [errW_none,errW_some] <;> rfl)|(simp [*,errW_none,errW_some] <;> rfl),by repeat (first|(with_reducible first|exact HB.out|apply eA_|apply eN_|apply eD_|refine eS_ ?_ GE326.out|refine eS_ ?_ GE327.out|refine eS_ ?_ GE345.out|refine eS_ ?_ GE346.out|refine eS_ ?_ GE352.out)|exact HB.out)⟩
        ·rw [if_neg c16] at H
         exact absurd H (by simp)
       ·rw [if_neg c15] at H
        have c15b0 : ((t347.length : Int) == 1) = false:=beq_eq_false_iff_ne.mpr c15
        have c15b1 : ((t347.length : Int) != 1) = true:=bne_iff_ne.mpr c15
        exact absurd H (by simp)
      ·rw [if_neg c14] at H
       have c14b0 : (t350 == 0 && (t351 == 0)) = false:=by simpa using c14
       (try (have c14b1 : decide (t350 = 0 && (t351 == 0)) = false:=by simpa using c14))
       (try (have c14b2 : (t350 == 0 && (t351 == 0)) = false:=by simpa using c14))
       (try (have c14b3 : ¬ (t350 = 0 && (t351 == 0)):=by simpa using c14))
       clear c14
       exact absurd H (by simp)
     ·replace c13:=Bool.eq_false_iff.mpr c13
      subst c13
      have H1 : (none) = some r:=by rw [if_neg (show ¬ (false = true) by decide)] at H;exact H
      clear H
      have H:=H1
      clear H1
      exact absurd H (by simp)
    ·rw [if_neg c11] at H
     have c11b0 : (t343 == 0 && (t344 == 0)) = false:=by simpa using c11
     (try (have c11b1 : decide (t343 = 0 && (t344 == 0)) = false:=by simpa using c11))
     (try (have c11b2 : (t343 == 0 && (t344 == 0)) = false:=by simpa using c11))
     (try (have c11b3 : ¬ (t343 = 0 && (t344 == 0)):=by simpa using c11))
     clear c11
     exact absurd H (by simp)
   ·rw [if_neg c10] at H
    have c10b0 : (t329 == 0) = false:=beq_eq_false_iff_ne.mpr c10
    have c10b1 : (t329 != 0) = true:=bne_iff_ne.mpr c10
    exact absurd H (by simp)
  ·rw [if_neg c7] at H
   have c7b0 : (t331 == 0) = false:=beq_eq_false_iff_ne.mpr c7
   have c7b1 : (t331 != 0) = true:=bne_iff_ne.mpr c7
   by_cases c55 : t330.toList = ([] : List UInt8)
   ·rw [if_pos c55] at H
    have c55b0 : (t330.toList == ([] : List UInt8)) = true:=beq_iff_eq.mpr c55
    have c55b1 : (t330.toList != ([] : List UInt8)) = false:=bne_eq_false_iff_eq.mpr c55
    clear c55
    by_cases c56 : t329 = t331
    ·rw [if_pos c56] at H
     have c56b0 : (t329 == t331) = true:=beq_iff_eq.mpr c56
     have c56b1 : (t329 != t331) = false:=bne_eq_false_iff_eq.mpr c56
     clear c56
     obtain rfl:=Option.some.inj H
     go_enter Tryd.func4,Tryd.ntmps4
     go_wp2_with (first|((with_reducible refine gate_dst (N:=2) rfl ?_);(try (refine gate_guard (by rfl) ?_;dsimp only));refine box_event ?hg (N:=2) ?hd (cs:=#[.int .i64 a0_0,.slice A0_1 l0_1.length c0_1,.slice A0_2 l0_2.length c0_2,.slice A0_3 l0_3.length c0_3,.int .i64 a0_4]) (t:=28) ?hr ?_;(case hd => rfl);(case hg => rfl);(case hr => first|(go_simp;done)|(go_simp;rfl));intro gb326 hg w57 hbox hb;have n0_:=A0_.mk (below_step (by repeat (first|(with_reducible first|exact HB.out|apply eA_|apply eN_|apply eD_)|exact HB.out)) hb);have n1_:=A0_.mk (hbox);have n2_:=A0_.mk ((by rw [hg];exact (below_size (by repeat (first|(with_reducible first|exact HB.out|apply eA_|apply eN_|apply eD_)|exact HB.out))) : w.heap.size ≤ gb326));have n3_:=A0_.mk ((by rw [hg];exact (below_size (by repeat (first|(with_reducible first|exact HB.out|apply eA_|apply eN_|apply eD_)|exact HB.out))) : w.heap.size ≤ gb326));clear HB;have HB:=n0_;have BK326:=n1_;have GW326:=n2_;have GE326:=n3_;clear n0_ n1_ n2_ n3_;clear hb hbox hg)|((with_reducible refine gate_dst (N:=3) rfl ?_);(try (refine gate_guard (by rfl) ?_;dsimp only));refine box_event ?hg (N:=3) ?hd (cs:=#[.int .i64 a1_0,.int .i64 a1_1]) (t:=30) ?hr ?_;(case hd => rfl);(case hg => rfl);(case hr => first|(go_simp;done)|(go_simp;rfl));intro gb327 hg w58 hbox hb;have n0_:=A0_.mk (blk_below (g:=gb326) (o:=.cells #[.int .i64 a0_0,.slice A0_1 l0_1.length c0_1,.slice A0_2 l0_2.length c0_2,.slice A0_3 l0_3.length c0_3,.int .i64 a0_4] 28 (0,0)) (by (with_reducible repeat (first|refine bN_ ?_ _|refine bD_ ?_|refine bA_ ?_ _));exact BK326.out) hb);have n1_:=A0_.mk (below_step (by repeat (first|(with_reducible first|exact HB.out|apply eA_|apply eN_|apply eD_|refine eS_ ?_ GE326.out)|exact HB.out)) hb);have n2_:=A0_.mk (hbox);have n3_:=A0_.mk ((by rw [hg];exact (below_size (by repeat (first|(with_reducible first|exact HB.out|apply eA_|apply eN_|apply eD_|refine eS_ ?_ GE326.out)|exact HB.out))) : w.heap.size ≤ gb327));have n4_:=A0_.mk ((by rw [hg];exact (below_size (by repeat (first|(with_reducible first|exact HB.out|apply eA_|apply eN_|apply eD_|refine eS_ ?_ GE326.out)|exact HB.out))) : w.heap.size ≤ gb327));have n5_:=A0_.mk ((by rw [hg];exact Nat.ne_of_lt (blk_lt (g:=gb326) (o:=.cells #[.int .i64 a0_0,.slice A0_1 l0_1.length c0_1,.slice A0_2 l0_2.length c0_2,.slice A0_3 l0_3.length c0_3,.int .i64 a0_4] 28 (0,0)) (by (with_reducible repeat (first|refine bN_ ?_ _|refine bD_ ?_|refine bA_ ?_ _));exact BK326.out)) : gb326 ≠ gb327));have n6_:=A0_.mk ((by rw [hg];exact Nat.ne_of_gt (blk_lt (g:=gb326) (o:=.cells #[.int .i64 a0_0,.slice A0_1 l0_1.length c0_1,.slice A0_2 l0_2.length c0_2,.slice A0_3 l0_3.length c0_3,.int .i64 a0_4] 28 (0,0)) (by (with_reducible repeat (first|refine bN_ ?_ _|refine bD_ ?_|refine bA_ ?_ _));exact BK326.out)) : gb327 ≠ gb326));clear BK326;clear HB;have BK326:=n0_;have HB:=n1_;have BK327:=n2_;have GW327:=n3_;have GE327:=n4_;have NB326_327:=n5_;have NB327_326:=n6_;clear n0_ n1_ n2_ n3_ n4_ n5_ n6_;clear hb hbox hg)|((with_reducible refine gate_callee (f:=18) rfl ?_);refine goesL_ (some 12) rfl rfl Tryd.func18 (by kernel_rfl) rfl #[] rfl (by (try simp only [List.map_toArray,List.map_cons,List.map_nil]);first|done|rfl|(simp only [List.length_drop,List.length_take];rfl)) ?_;(with_reducible refine (trestlelaw12_works.calls k  true _ ?side1 A3.out).mono ?_);(case side1 => exact GV_below HG.out (by repeat (first|(with_reducible first|exact HB.out|apply eA_|apply eN_|apply eD_|refine eS_ ?_ GE326.out|refine eS_ ?_ GE327.out)|exact HB.out)));rintro e w59 ⟨rfl,hb⟩;refine ⟨_,rfl,?_⟩;have n0_:=A0_.mk (blk_below (g:=gb326) (o:=.cells #[.int .i64 a0_0,.slice A0_1 l0_1.length c0_1,.slice A0_2 l0_2.length c0_2,.slice A0_3 l0_3.length c0_3,.int .i64 a0_4] 28 (0,0)) (by (with_reducible repeat (first|refine bN_ ?_ _|refine bD_ ?_|refine bA_ ?_ _));exact BK326.out) hb);have n1_:=A0_.mk (blk_below (g:=gb327) (o:=.cells #[.int .i64 a1_0,.int .i64 a1_1] 30 (0,0)) (by (with_reducible repeat (first|refine bN_ ?_ _|refine bD_ ?_|refine bA_ ?_ _));exact BK327.out) hb);have n2_:=A0_.mk (below_step (by repeat (first|(with_reducible first|exact HB.out|apply eA_|apply eN_|apply eD_|refine eS_ ?_ GE326.out|refine eS_ ?_ GE327.out)|exact HB.out)) hb);clear BK326;clear BK327;clear HB;have BK326:=n0_;have BK327:=n1_;have HB:=n2_;clear n0_ n1_ n2_;(try clear hb);(try clear hb2);(try clear hk);(try clear hi);have hnb60:=NB326_327.out;have hnc60:=NB327_326.out;have hcz61_0 : w59.cell? ⟨gb326,0,none⟩ = some (.int .i64 a0_0):=(bC_ BK326.out 0).trans rfl;have hcz61_1 : w59.cell? ⟨gb326,1,none⟩ = some (.slice A0_1 l0_1.length c0_1):=(bC_ BK326.out 1).trans rfl;have hcz61_2 : w59.cell? ⟨gb326,2,none⟩ = some (.slice A0_2 l0_2.length c0_2):=(bC_ BK326.out 2).trans rfl;have hcz61_3 : w59.cell? ⟨gb326,3,none⟩ = some (.slice A0_3 l0_3.length c0_3):=(bC_ BK326.out 3).trans rfl;have hcz61_4 : w59.cell? ⟨gb326,4,none⟩ = some (.int .i64 a0_4):=(bC_ BK326.out 4).trans rfl;have hfz61_0:=bF_ BK326.out 0;have hfz61_1:=bF_ BK326.out 1;have hfz61_2:=bF_ BK326.out 2;have hfz61_3:=bF_ BK326.out 3;have hfz61_4:=bF_ BK326.out 4;have hcz62_0 : w59.cell? ⟨gb327,0,none⟩ = some (.int .i64 a1_0):=(bC_ BK327.out 0).trans rfl;have hcz62_1 : w59.cell? ⟨gb327,1,none⟩ = some (.int .i64 a1_1):=(bC_ BK327.out 1).trans rfl;have hfz62_0:=bF_ BK327.out 0;have hfz62_1:=bF_ BK327.out 1)|((with_reducible refine gate_callee (f:=15) rfl ?_);refine goesL_ (some 19) rfl rfl Tryd.func15 (by kernel_rfl) rfl #[.agg #[.int .i64 a0_0,.slice A0_1 l0_1.length c0_1,.slice A0_2 l0_2.length c0_2,.slice A0_3 l0_3.length c0_3,.int .i64 a0_4],.int .i64 a1_0,.int .i64 a1_1] rfl (by (try simp only [List.map_toArray,List.map_cons,List.map_nil]);first|done|rfl|(simp only [List.length_drop,List.length_take];rfl)) ?_;(with_reducible refine (stim_Check.calls k a0_0 _ _ l0_1 _ _ l0_2 _ _ l0_3 a0_4 a1_0 a1_1 t329 _ ?side1 ?side2 ?side3 ?side4 ?side5 ?side6 A5.out).mono ?_);(case side1 => repeat (first|exact (Kd.C_below HR0_1.out HB.out)|(with_reducible refine Kd.C_alloc ?_ _)|(with_reducible refine Kd.C_drewN ?_ _)|(with_reducible refine Kd.C_drew ?_)));(case side2 => exact HC0_1.out);(case side3 => repeat (first|exact (Kd.C_below HR0_2.out HB.out)|(with_reducible refine Kd.C_alloc ?_ _)|(with_reducible refine Kd.C_drewN ?_ _)|(with_reducible refine Kd.C_drew ?_)));(case side4 => exact HC0_2.out);(case side5 => repeat (first|exact (Kd.C_below HR0_3.out HB.out)|(with_reducible refine Kd.C_alloc ?_ _)|(with_reducible refine Kd.C_drewN ?_ _)|(with_reducible refine Kd.C_drew ?_)));(case side6 => exact HC0_3.out);rintro e w63 ⟨rfl,hb⟩;refine ⟨_,rfl,?_⟩;have n0_:=A0_.mk (blk_below (g:=gb326) (o:=.cells #[.int .i64 a0_0,.slice A0_1 l0_1.length c0_1,.slice A0_2 l0_2.length c0_2,.slice A0_3 l0_3.length c0_3,.int .i64 a0_4] 28 (0,0)) (by (with_reducible repeat (first|refine bN_ ?_ _|refine bD_ ?_|refine bA_ ?_ _));exact BK326.out) hb);have n1_:=A0_.mk (blk_below (g:=gb327) (o:=.cells #[.int .i64 a1_0,.int .i64 a1_1] 30 (0,0)) (by (with_reducible repeat (first|refine bN_ ?_ _|refine bD_ ?_|refine bA_ ?_ _));exact BK327.out) hb);have n2_:=A0_.mk (below_step (by repeat (first|(with_reducible first|exact HB.out|apply eA_|apply eN_|apply eD_|refine eS_ ?_ GE326.out|refine eS_ ?_ GE327.out)|exact HB.out)) hb);clear BK326;clear BK327;clear HB;have BK326:=n0_;have BK327:=n1_;have HB:=n2_;clear n0_ n1_ n2_;(try clear hb);(try clear hb2);(try clear hk);(try clear hi);have hcz64_0 : w63.cell? ⟨gb326,0,none⟩ = some (.int .i64 a0_0):=(bC_ BK326.out 0).trans rfl;have hcz64_1 : w63.cell? ⟨gb326,1,none⟩ = some (.slice A0_1 l0_1.length c0_1):=(bC_ BK326.out 1).trans rfl;have hcz64_2 : w63.cell? ⟨gb326,2,none⟩ = some (.slice A0_2 l0_2.length c0_2):=(bC_ BK326.out 2).trans rfl;have hcz64_3 : w63.cell? ⟨gb326,3,none⟩ = some (.slice A0_3 l0_3.length c0_3):=(bC_ BK326.out 3).trans rfl;have hcz64_4 : w63.cell? ⟨gb326,4,none⟩ = some (.int .i64 a0_4):=(bC_ BK326.out 4).trans rfl;have hfz64_0:=bF_ BK326.out 0;have hfz64_1:=bF_ BK326.out 1;have hfz64_2:=bF_ BK326.out 2;have hfz64_3:=bF_ BK326.out 3;have hfz64_4:=bF_ BK326.out 4;have hcz65_0 : w63.cell? ⟨gb327,0,none⟩ = some (.int .i64 a1_0):=(bC_ BK327.out 0).trans rfl;have hcz65_1 : w63.cell? ⟨gb327,1,none⟩ = some (.int .i64 a1_1):=(bC_ BK327.out 1).trans rfl;have hfz65_0:=bF_ BK327.out 0;have hfz65_1:=bF_ BK327.out 1)|((with_reducible refine gate_callee (f:=13) rfl ?_);refine goesL_ (some 26) rfl rfl Tryd.func13 (by kernel_rfl) rfl #[.agg #[.int .i64 a0_0,.slice A0_1 l0_1.length c0_1,.slice A0_2 l0_2.length c0_2,.slice A0_3 l0_3.length c0_3,.int .i64 a0_4],.int .i64 a1_0,.int .i64 a1_1] rfl (by (try simp only [List.map_toArray,List.map_cons,List.map_nil]);first|done|rfl|(simp only [List.length_drop,List.length_take];rfl)) ?_;(with_reducible refine (stim_Print.calls a0_0 _ _ l0_1 _ _ l0_2 _ _ l0_3 a0_4 a1_0 a1_1 t330 t331 _ ?side7 ?side1 ?side2 ?side3 ?side4 ?side5 ?side6 A6.out).mono ?_);(case side1 => repeat (first|exact (Kd.C_below HR0_1.out HB.out)|(with_reducible refine Kd.C_alloc ?_ _)|(with_reducible refine Kd.C_drewN ?_ _)|(with_reducible refine Kd.C_drew ?_)));(case side2 => exact HC0_1.out);(case side3 => repeat (first|exact (Kd.C_below HR0_2.out HB.out)|(with_reducible refine Kd.C_alloc ?_ _)|(with_reducible refine Kd.C_drewN ?_ _)|(with_reducible refine Kd.C_drew ?_)));(case side4 => exact HC0_2.out);(case side5 => repeat (first|exact (Kd.C_below HR0_3.out HB.out)|(with_reducible refine Kd.C_alloc ?_ _)|(with_reducible refine Kd.C_drewN ?_ _)|(with_reducible refine Kd.C_drew ?_)));(case side6 => exact HC0_3.out);(case side7 => exact GV_below HG.out (by repeat (first|(with_reducible first|exact HB.out|apply eA_|apply eN_|apply eD_|refine eS_ ?_ GE326.out|refine eS_ ?_ GE327.out)|exact HB.out)));rintro e w66 ⟨rfl,hb⟩;refine ⟨_,rfl,?_⟩;have n0_:=A0_.mk (blk_below (g:=gb326) (o:=.cells #[.int .i64 a0_0,.slice A0_1 l0_1.length c0_1,.slice A0_2 l0_2.length c0_2,.slice A0_3 l0_3.length c0_3,.int .i64 a0_4] 28 (0,0)) (by (with_reducible repeat (first|refine bN_ ?_ _|refine bD_ ?_|refine bA_ ?_ _));exact BK326.out) hb);have n1_:=A0_.mk (blk_below (g:=gb327) (o:=.cells #[.int .i64 a1_0,.int .i64 a1_1] 30 (0,0)) (by (with_reducible repeat (first|refine bN_ ?_ _|refine bD_ ?_|refine bA_ ?_ _));exact BK327.out) hb);have n2_:=A0_.mk (below_step (by repeat (first|(with_reducible first|exact HB.out|apply eA_|apply eN_|apply eD_|refine eS_ ?_ GE326.out|refine eS_ ?_ GE327.out)|exact HB.out)) hb);clear BK326;clear BK327;clear HB;have BK326:=n0_;have BK327:=n1_;have HB:=n2_;clear n0_ n1_ n2_;(try clear hb);(try clear hb2);(try clear hk);(try clear hi)))
     go_ret
     exact ⟨by first|rfl|(simp [errW_none,errW_some] <;> rfl)|(simp [*,errW_none,errW_some] <;> rfl),by repeat (first|(with_reducible first|exact HB.out|apply eA_|apply eN_|apply eD_|refine eS_ ?_ GE326.out|refine eS_ ?_ GE327.out)|exact HB.out)⟩
    ·rw [if_neg c56] at H
     have c56b0 : (t329 == t331) = false:=beq_eq_false_iff_ne.mpr c56
     have c56b1 : (t329 != t331) = true:=bne_iff_ne.mpr c56
     by_cases c67 : t329 = 0
     ·rw [if_pos c67] at H
      have c67b0 : (t329 == 0) = true:=beq_iff_eq.mpr c67
      have c67b1 : (t329 != 0) = false:=bne_eq_false_iff_eq.mpr c67
      clear c67
      obtain rfl:=Option.some.inj H
      go_enter Tryd.func4,Tryd.ntmps4
      go_wp2_with (first|((with_reducible refine gate_dst (N:=2) rfl ?_);(try (refine gate_guard (by rfl) ?_;dsimp only));refine box_event ?hg (N:=2) ?hd (cs:=#[.int .i64 a0_0,.slice A0_1 l0_1.length c0_1,.slice A0_2 l0_2.length c0_2,.slice A0_3 l0_3.length c0_3,.int .i64 a0_4]) (t:=28) ?hr ?_;(case hd => rfl);(case hg => rfl);(case hr => first|(go_simp;done)|(go_simp;rfl));intro gb326 hg w68 hbox hb;have n0_:=A0_.mk (below_step (by repeat (first|(with_reducible first|exact HB.out|apply eA_|apply eN_|apply eD_)|exact HB.out)) hb);have n1_:=A0_.mk (hbox);have n2_:=A0_.mk ((by rw [hg];exact (below_size (by repeat (first|(with_reducible first|exact HB.out|apply eA_|apply eN_|apply eD_)|exact HB.out))) : w.heap.size ≤ gb326));have n3_:=A0_.mk ((by rw [hg];exact (below_size (by repeat (first|(with_reducible first|exact HB.out|apply eA_|apply eN_|apply eD_)|exact HB.out))) : w.heap.size ≤ gb326));clear HB;have HB:=n0_;have BK326:=n1_;have GW326:=n2_;have GE326:=n3_;clear n0_ n1_ n2_ n3_;clear hb hbox hg)|((with_reducible refine gate_dst (N:=3) rfl ?_);(try (refine gate_guard (by rfl) ?_;dsimp only));refine box_event ?hg (N:=3) ?hd (cs:=#[.int .i64 a1_0,.int .i64 a1_1]) (t:=30) ?hr ?_;(case hd => rfl);(case hg => rfl);(case hr => first|(go_simp;done)|(go_simp;rfl));intro gb327 hg w69 hbox hb;have n0_:=A0_.mk (blk_below (g:=gb326) (o:=.cells #[.int .i64 a0_0,.slice A0_1 l0_1.length c0_1,.slice A0_2 l0_2.length c0_2,.slice A0_3 l0_3.length c0_3,.int .i64 a0_4] 28 (0,0)) (by (with_reducible repeat (first|refine bN_ ?_ _|refine bD_ ?_|refine bA_ ?_ _));exact BK326.out) hb);have n1_:=A0_.mk (below_step (by repeat (first|(with_reducible first|exact HB.out|apply eA_|apply eN_|apply eD_|refine eS_ ?_ GE326.out)|exact HB.out)) hb);have n2_:=A0_.mk (hbox);have n3_:=A0_.mk ((by rw [hg];exact (below_size (by repeat (first|(with_reducible first|exact HB.out|apply eA_|apply eN_|apply eD_|refine eS_ ?_ GE326.out)|exact HB.out))) : w.heap.size ≤ gb327));have n4_:=A0_.mk ((by rw [hg];exact (below_size (by repeat (first|(with_reducible first|exact HB.out|apply eA_|apply eN_|apply eD_|refine eS_ ?_ GE326.out)|exact HB.out))) : w.heap.size ≤ gb327));have n5_:=A0_.mk ((by rw [hg];exact Nat.ne_of_lt (blk_lt (g:=gb326) (o:=.cells #[.int .i64 a0_0,.slice A0_1 l0_1.length c0_1,.slice A0_2 l0_2.length c0_2,.slice A0_3 l0_3.length c0_3,.int .i64 a0_4] 28 (0,0)) (by (with_reducible repeat (first|refine bN_ ?_ _|refine bD_ ?_|refine bA_ ?_ _));exact BK326.out)) : gb326 ≠ gb327));have n6_:=A0_.mk ((by rw [hg];exact Nat.ne_of_gt (blk_lt (g:=gb326) (o:=.cells #[.int .i64 a0_0,.slice A0_1 l0_1.length c0_1,.slice A0_2 l0_2.length c0_2,.slice A0_3 l0_3.length c0_3,.int .i64 a0_4] 28 (0,0)) (by (with_reducible repeat (first|refine bN_ ?_ _|refine bD_ ?_|refine bA_ ?_ _));exact BK326.out)) : gb327 ≠ gb326));clear BK326;clear HB;have BK326:=n0_;have HB:=n1_;have BK327:=n2_;have GW327:=n3_;have GE327:=n4_;have NB326_327:=n5_;have NB327_326:=n6_;clear n0_ n1_ n2_ n3_ n4_ n5_ n6_;clear hb hbox hg)|((with_reducible refine gate_callee (f:=18) rfl ?_);refine goesL_ (some 12) rfl rfl Tryd.func18 (by kernel_rfl) rfl #[] rfl (by (try simp only [List.map_toArray,List.map_cons,List.map_nil]);first|done|rfl|(simp only [List.length_drop,List.length_take];rfl)) ?_;(with_reducible refine (trestlelaw12_works.calls k  true _ ?side1 A3.out).mono ?_);(case side1 => exact GV_below HG.out (by repeat (first|(with_reducible first|exact HB.out|apply eA_|apply eN_|apply eD_|refine eS_ ?_ GE326.out|refine eS_ ?_ GE327.out)|exact HB.out)));rintro e w70 ⟨rfl,hb⟩;refine ⟨_,rfl,?_⟩;have n0_:=A0_.mk (blk_below (g:=gb326) (o:=.cells #[.int .i64 a0_0,.slice A0_1 l0_1.length c0_1,.slice A0_2 l0_2.length c0_2,.slice A0_3 l0_3.length c0_3,.int .i64 a0_4] 28 (0,0)) (by (with_reducible repeat (first|refine bN_ ?_ _|refine bD_ ?_|refine bA_ ?_ _));exact BK326.out) hb);have n1_:=A0_.mk (blk_below (g:=gb327) (o:=.cells #[.int .i64 a1_0,.int .i64 a1_1] 30 (0,0)) (by (with_reducible repeat (first|refine bN_ ?_ _|refine bD_ ?_|refine bA_ ?_ _));exact BK327.out) hb);have n2_:=A0_.mk (below_step (by repeat (first|(with_reducible first|exact HB.out|apply eA_|apply eN_|apply eD_|refine eS_ ?_ GE326.out|refine eS_ ?_ GE327.out)|exact HB.out)) hb);clear BK326;clear BK327;clear HB;have BK326:=n0_;have BK327:=n1_;have HB:=n2_;clear n0_ n1_ n2_;(try clear hb);(try clear hb2);(try clear hk);(try clear hi);have hnb71:=NB326_327.out;have hnc71:=NB327_326.out;have hcz72_0 : w70.cell? ⟨gb326,0,none⟩ = some (.int .i64 a0_0):=(bC_ BK326.out 0).trans rfl;have hcz72_1 : w70.cell? ⟨gb326,1,none⟩ = some (.slice A0_1 l0_1.length c0_1):=(bC_ BK326.out 1).trans rfl;have hcz72_2 : w70.cell? ⟨gb326,2,none⟩ = some (.slice A0_2 l0_2.length c0_2):=(bC_ BK326.out 2).trans rfl;have hcz72_3 : w70.cell? ⟨gb326,3,none⟩ = some (.slice A0_3 l0_3.length c0_3):=(bC_ BK326.out 3).trans rfl;have hcz72_4 : w70.cell? ⟨gb326,4,none⟩ = some (.int .i64 a0_4):=(bC_ BK326.out 4).trans rfl;have hfz72_0:=bF_ BK326.out 0;have hfz72_1:=bF_ BK326.out 1;have hfz72_2:=bF_ BK326.out 2;have hfz72_3:=bF_ BK326.out 3;have hfz72_4:=bF_ BK326.out 4;have hcz73_0 : w70.cell? ⟨gb327,0,none⟩ = some (.int .i64 a1_0):=(bC_ BK327.out 0).trans rfl;have hcz73_1 : w70.cell? ⟨gb327,1,none⟩ = some (.int .i64 a1_1):=(bC_ BK327.out 1).trans rfl;have hfz73_0:=bF_ BK327.out 0;have hfz73_1:=bF_ BK327.out 1)|((with_reducible refine gate_callee (f:=15) rfl ?_);refine goesL_ (some 19) rfl rfl Tryd.func15 (by kernel_rfl) rfl #[.agg #[.int .i64 a0_0,.slice A0_1 l0_1.length c0_1,.slice A0_2 l0_2.length c0_2,.slice A0_3 l0_3.length c0_3,.int .i64 a0_4],.int .i64 a1_0,.int .i64 a1_1] rfl (by (try simp only [List.map_toArray,List.map_cons,List.map_nil]);first|done|rfl|(simp only [List.length_drop,List.length_take];rfl)) ?_;(with_reducible refine (stim_Check.calls k a0_0 _ _ l0_1 _ _ l0_2 _ _ l0_3 a0_4 a1_0 a1_1 t329 _ ?side1 ?side2 ?side3 ?side4 ?side5 ?side6 A5.out).mono ?_);(case side1 => repeat (first|exact (Kd.C_below HR0_1.out HB.out)|(with_reducible refine Kd.C_alloc ?_ _)|(with_reducible refine Kd.C_drewN ?_ _)|(with_reducible refine Kd.C_drew ?_)));(case side2 => exact HC0_1.out);(case side3 => repeat (first|exact (Kd.C_below HR0_2.out HB.out)|(with_reducible refine Kd.C_alloc ?_ _)|(with_reducible refine Kd.C_drewN ?_ _)|(with_reducible refine Kd.C_drew ?_)));(case side4 => exact HC0_2.out);(case side5 => repeat (first|exact (Kd.C_below HR0_3.out HB.out)|(with_reducible refine Kd.C_alloc ?_ _)|(with_reducible refine Kd.C_drewN ?_ _)|(with_reducible refine Kd.C_drew ?_)));(case side6 => exact HC0_3.out);rintro e w74 ⟨rfl,hb⟩;refine ⟨_,rfl,?_⟩;have n0_:=A0_.mk (blk_below (g:=gb326) (o:=.cells #[.int .i64 a0_0,.slice A0_1 l0_1.length c0_1,.slice A0_2 l0_2.length c0_2,.slice A0_3 l0_3.length c0_3,.int .i64 a0_4] 28 (0,0)) (by (with_reducible repeat (first|refine bN_ ?_ _|refine bD_ ?_|refine bA_ ?_ _));exact BK326.out) hb);have n1_:=A0_.mk (blk_below (g:=gb327) (o:=.cells #[.int .i64 a1_0,.int .i64 a1_1] 30 (0,0)) (by (with_reducible repeat (first|refine bN_ ?_ _|refine bD_ ?_|refine bA_ ?_ _));exact BK327.out) hb);have n2_:=A0_.mk (below_step (by repeat (first|(with_reducible first|exact HB.out|apply eA_|apply eN_|apply eD_|refine eS_ ?_ GE326.out|refine eS_ ?_ GE327.out)|exact HB.out)) hb);clear BK326;clear BK327;clear HB;have BK326:=n0_;have BK327:=n1_;have HB:=n2_;clear n0_ n1_ n2_;(try clear hb);(try clear hb2);(try clear hk);(try clear hi);have hcz75_0 : w74.cell? ⟨gb326,0,none⟩ = some (.int .i64 a0_0):=(bC_ BK326.out 0).trans rfl;have hcz75_1 : w74.cell? ⟨gb326,1,none⟩ = some (.slice A0_1 l0_1.length c0_1):=(bC_ BK326.out 1).trans rfl;have hcz75_2 : w74.cell? ⟨gb326,2,none⟩ = some (.slice A0_2 l0_2.length c0_2):=(bC_ BK326.out 2).trans rfl;have hcz75_3 : w74.cell? ⟨gb326,3,none⟩ = some (.slice A0_3 l0_3.length c0_3):=(bC_ BK326.out 3).trans rfl;have hcz75_4 : w74.cell? ⟨gb326,4,none⟩ = some (.int .i64 a0_4):=(bC_ BK326.out 4).trans rfl;have hfz75_0:=bF_ BK326.out 0;have hfz75_1:=bF_ BK326.out 1;have hfz75_2:=bF_ BK326.out 2;have hfz75_3:=bF_ BK326.out 3;have hfz75_4:=bF_ BK326.out 4;have hcz76_0 : w74.cell? ⟨gb327,0,none⟩ = some (.int .i64 a1_0):=(bC_ BK327.out 0).trans rfl;have hcz76_1 : w74.cell? ⟨gb327,1,none⟩ = some (.int .i64 a1_1):=(bC_ BK327.out 1).trans rfl;have hfz76_0:=bF_ BK327.out 0;have hfz76_1:=bF_ BK327.out 1)|((with_reducible refine gate_callee (f:=13) rfl ?_);refine goesL_ (some 26) rfl rfl Tryd.func13 (by kernel_rfl) rfl #[.agg #[.int .i64 a0_0,.slice A0_1 l0_1.length c0_1,.slice A0_2 l0_2.length c0_2,.slice A0_3 l0_3.length c0_3,.int .i64 a0_4],.int .i64 a1_0,.int .i64 a1_1] rfl (by (try simp only [List.map_toArray,List.map_cons,List.map_nil]);first|done|rfl|(simp only [List.length_drop,List.length_take];rfl)) ?_;(with_reducible refine (stim_Print.calls a0_0 _ _ l0_1 _ _ l0_2 _ _ l0_3 a0_4 a1_0 a1_1 t330 t331 _ ?side7 ?side1 ?side2 ?side3 ?side4 ?side5 ?side6 A6.out).mono ?_);(case side1 => repeat (first|exact (Kd.C_below HR0_1.out HB.out)|(with_reducible refine Kd.C_alloc ?_ _)|(with_reducible refine Kd.C_drewN ?_ _)|(with_reducible refine Kd.C_drew ?_)));(case side2 => exact HC0_1.out);(case side3 => repeat (first|exact (Kd.C_below HR0_2.out HB.out)|(with_reducible refine Kd.C_alloc ?_ _)|(with_reducible refine Kd.C_drewN ?_ _)|(with_reducible refine Kd.C_drew ?_)));(case side4 => exact HC0_2.out);(case side5 => repeat (first|exact (Kd.C_below HR0_3.out HB.out)|(with_reducible refine Kd.C_alloc ?_ _)|(with_reducible refine Kd.C_drewN ?_ _)|(with_reducible refine Kd.C_drew ?_)));(case side6 => exact HC0_3.out);(case side7 => exact GV_below HG.out (by repeat (first|(with_reducible first|exact HB.out|apply eA_|apply eN_|apply eD_|refine eS_ ?_ GE326.out|refine eS_ ?_ GE327.out)|exact HB.out)));rintro e w77 ⟨rfl,hb⟩;refine ⟨_,rfl,?_⟩;have n0_:=A0_.mk (blk_below (g:=gb326) (o:=.cells #[.int .i64 a0_0,.slice A0_1 l0_1.length c0_1,.slice A0_2 l0_2.length c0_2,.slice A0_3 l0_3.length c0_3,.int .i64 a0_4] 28 (0,0)) (by (with_reducible repeat (first|refine bN_ ?_ _|refine bD_ ?_|refine bA_ ?_ _));exact BK326.out) hb);have n1_:=A0_.mk (blk_below (g:=gb327) (o:=.cells #[.int .i64 a1_0,.int .i64 a1_1] 30 (0,0)) (by (with_reducible repeat (first|refine bN_ ?_ _|refine bD_ ?_|refine bA_ ?_ _));exact BK327.out) hb);have n2_:=A0_.mk (below_step (by repeat (first|(with_reducible first|exact HB.out|apply eA_|apply eN_|apply eD_|refine eS_ ?_ GE326.out|refine eS_ ?_ GE327.out)|exact HB.out)) hb);clear BK326;clear BK327;clear HB;have BK326:=n0_;have BK327:=n1_;have HB:=n2_;clear n0_ n1_ n2_;(try clear hb);(try clear hb2);(try clear hk);(try clear hi)))
      go_ret
      exact ⟨by first|rfl|(simp [errW_none,errW_some] <;> rfl)|(simp [*,errW_none,errW_some] <;> rfl),by repeat (first|(with_reducible first|exact HB.out|apply eA_|apply eN_|apply eD_|refine eS_ ?_ GE326.out|refine eS_ ?_ GE327.out)|exact HB.out)⟩
     ·rw [if_neg c67] at H
      exact absurd H (by simp)
   ·rw [if_neg c55] at H
    exact absurd H (by simp)
 ·replace c4:=Bool.eq_false_iff.mpr c4
  subst c4
  have H1 : (none) = some r:=by rw [if_neg (show ¬ (false = true) by decide)] at H;exact H
  clear H
  have H:=H1
  clear H1
  exact absurd H (by simp)
end Go.Proofs.YtojepjkpnponoaaDoor.Stim

