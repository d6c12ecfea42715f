import Derived.Test.YtojepjkpnponoaaDoorKStim0
import Derived.Test.YtojepjkpnponoaaDoorKStim4
import Derived.Test.YtojepjkpnponoaaDoorKStim5
import Derived.Test.YtojepjkpnponoaaDoorKStim6
import Derived.Test.YtojepjkpnponoaaDoorKStim8
import Derived.Test.YtojepjkpnponoaaDoorKStim9
import Derived.Test.YtojepjkpnponoaaDoorKStim10
import Derived.Test.YtojepjkpnponoaaDoorKGV
import Derived.Test.YtojepjkpnponoaaDoorKGPrint
import Derived.Test.YtojepjkpnponoaaDoorKGRefPrint
namespace Go.Proofs.YtojepjkpnponoaaDoor.Stim
open Go.RowKit Go.Proofs.YtojepjkpnponoaaDoorW.PrintWords Go.Proofs.YtojepjkpnponoaaDoorW.PrintLast Go.Proofs.YtojepjkpnponoaaDoorW.PrintMore
attribute [local go_sem] max2_int min2_int max_two min_two max_three min_three max_four min_four
set_option linter.unusedVariables false
set_option linter.unusedSimpArgs false
def trestlelaw12_StimPrints.f (k : Nat) (a0_0 : Int) (l0_1 : List (S83)) (l0_2 : List Bool) (l0_3 : List (List Bool)) (a0_4 : Int) (a1_0 : Int) (a1_1 : Int) : Option (Bool):=(trestlelaw12_names.f).bind fun t303 => (if t303 = true then ((some (([] : List (S83)) : List (S83))).bind fun y304 => (if y304.length + l0_1.length < 8796093022208 then ((some (y304 ++ l0_1 : List (S83))).bind fun y307 => ((book_CT.f k l0_2 l0_3 a0_4).bind fun bt310 => ((stim_Print.f a0_0 y307 bt310.1 bt310.2.1 bt310.2.2 a1_0 a1_1).bind fun bt318 => ((trestleref12_Print.f a0_0 l0_1 l0_2 l0_3 a0_4 a1_0 a1_1).bind fun bt320 => (if bt318.1.toList = bt320.1.toList then (if bt318.2 = bt320.2 then ((stim_Check.f k a0_0 y307 bt310.1 bt310.2.1 bt310.2.2 a1_0 a1_1).bind fun t322 => ((trestleref12_Check.f k a0_0 l0_1 l0_2 l0_3 a0_4 a1_0 a1_1).bind fun t323 => (if t322 = t323 then ((trestlelaw12_same.f k a0_0 y307 bt310.1 bt310.2.1 bt310.2.2 a0_0 l0_1 l0_2 l0_3 a0_4).bind fun t324 => (if t324 = true then ((trestlelaw12_works.f k).bind fun t325 => (some t325)) else (none))) else (none)))) else (none)) else (none)))))) else (none))) else (none))
theorem trestlelaw12_StimPrints.mono : ∀ a0 a1 a2 a3 a4 a5 a6 k,LeO (trestlelaw12_StimPrints.f k a0 a1 a2 a3 a4 a5 a6) (trestlelaw12_StimPrints.f (k + 1) a0 a1 a2 a3 a4 a5 a6):=by
 intro a0 a1 a2 a3 a4 a5 a6 k
 unfold trestlelaw12_StimPrints.f
 repeat' first
   |(with_reducible exact stim_Check.mono _ _ _ _ _ _ _ _)
   |(with_reducible exact book_CT.mono _ _ _ _)
   |(with_reducible exact trestlelaw12_same.mono _ _ _ _ _ _ _ _ _ _ _)
   |(with_reducible exact trestlelaw12_works.mono _)
   |(with_reducible exact trestleref12_Check.mono _ _ _ _ _ _ _ _)
   |(with_reducible exact LeO.refl _)
   |(with_reducible exact LeO.none _)
   |(with_reducible refine LeO.ite ?_ ?_)
   |(with_reducible refine LeO.bind ?_ (fun _ => ?_))
   |exact stim_Check.mono _ _ _ _ _ _ _ _
   |exact book_CT.mono _ _ _ _
   |exact trestlelaw12_same.mono _ _ _ _ _ _ _ _ _ _ _
   |exact trestlelaw12_works.mono _
   |exact trestleref12_Check.mono _ _ _ _ _ _ _ _
   |exact LeO.none _
   |refine LeO.ite ?_ ?_
   |refine LeO.bind ?_ (fun _ => ?_)
def trestlelaw12_StimPrints.T3 : Bool × List (List Nat × List Nat):=(true,[([],[]),([0],[0]),([],[]),([],[]),([3],[3]),([2,4],[2,4]),([],[]),([6],[6]),([7,5],[7]),([1,5,8],[1,5,8]),([],[]),([10,9,8,0,1,2,3,4,5,6,7,8,9,10],[9,10])])
def trestlelaw12_StimPrints.B3 : List Nat:=[0,1,0,0,8,28,0,64,252,511,0,2047]
theorem trestlelaw12_StimPrints.tab3 : rtab .any (opsOf Tryd.f3 3) = trestlelaw12_StimPrints.T3:=by kernel_rfl
theorem trestlelaw12_StimPrints.bits3 : waitsOk trestlelaw12_StimPrints.T3.2 trestlelaw12_StimPrints.B3 = true:=by kernel_rfl
def trestlelaw12_StimPrints.T6 : Bool × List (List Nat × List Nat):=(true,[([],[]),([],[]),([0,1],[0,1]),([2],[2]),([3],[3]),([3],[3]),([4,5,3],[3,4,5]),([3,6],[3,6]),([7,3],[7]),([8],[8]),([8],[8]),([10,8],[8,10]),([8],[8]),([12,8],[8,12]),([9,11,13,8,8],[8,9,11,13]),([8],[8]),([8],[8]),([16,8],[8,16]),([8],[8]),([18,8],[8,18]),([15,17,19,14,8],[8,15,17,19]),([14,20,8],[8,14,20]),([8,21],[8,21]),([22,20],[22]),([23],[23]),([23],[23]),([24,25,23,23],[23,24,25]),([23,26],[23,26]),([27,26],[27]),([28,28],[28]),([28,29],[28,29]),([30,29,0,1,2,3,4,5,6,7,8,9,10,11,12,13,14,15,16,17,18,19,20,21,22,23,24,25,26,27,28,29,30],[30])])
def trestlelaw12_StimPrints.B6 : List Nat:=[0,0,3,7,15,15,63,127,255,511,511,1535,511,4607,16383,511,511,66047,511,262655,1048575,2097151,4194303,8388607,16777215,16777215,67108863,134217727,268435455,536870911,1073741823,2147483647]
theorem trestlelaw12_StimPrints.tab6 : rtab .any (opsOf Tryd.f3 6) = trestlelaw12_StimPrints.T6:=by kernel_rfl
theorem trestlelaw12_StimPrints.bits6 : waitsOk trestlelaw12_StimPrints.T6.2 trestlelaw12_StimPrints.B6 = true:=by kernel_rfl
set_option maxHeartbeats 8000000 in
set_option maxRecDepth 100000 in
theorem trestlelaw12_StimPrints.calls (k : Nat) (a0_0 : Int) (A0_1 : Option Addr) (c0_1 : Nat) (l0_1 : List (S83)) (A0_2 : Option Addr) (c0_2 : Nat) (l0_2 : List Bool) (A0_3 : Option Addr) (c0_3 : Nat) (l0_3 : List (List Bool)) (a0_4 : Int) (a1_0 : Int) (a1_1 : Int) (r : Bool) (w : World) (hG : GV w) (hr0_1 : Kd.C k83 w A0_1 l0_1.length l0_1) (hc0_1 : l0_1.length ≤ c0_1) (hr0_2 : Kd.C Kd.bool w A0_2 l0_2.length l0_2) (hc0_2 : l0_2.length ≤ c0_2) (hr0_3 : Kd.C (Kd.slice 4 Kd.bool) w A0_3 l0_3.length l0_3) (hc0_3 : l0_3.length ≤ c0_3) (h : trestlelaw12_StimPrints.f k a0_0 l0_1 l0_2 l0_3 a0_4 a1_0 a1_1 = some r) :
  Calls Tryd.prog 3 #[.agg #[.int .i64 a0_0,.slice A0_1 l0_1.length c0_1,.slice A0_2 l0_2.length c0_2,.slice A0_3 l0_3.length c0_3,.int .i64 a0_4],.agg #[.int .i64 a1_0,.int .i64 a1_1]] w fun e w' => e = .returned (.bool r) ∧ Below w.heap.size w w':=by
 have hu28:=Tryd.underlying28
 have hu30:=Tryd.underlying30
 have hu26:=Tryd.underlying26
 have HR0_1:=A0_.mk hr0_1
 have HC0_1:=A0_.mk hc0_1
 clear hr0_1 hc0_1
 have HR0_2:=A0_.mk hr0_2
 have HC0_2:=A0_.mk hc0_2
 clear hr0_2 hc0_2
 have HR0_3:=A0_.mk hr0_3
 have HC0_3:=A0_.mk hc0_3
 clear hr0_3 hc0_3
 have HG:=A0_.mk hG
 clear hG
 have HB:=A0_.mk (Below.refl w.heap.size w)
 have H : ((trestlelaw12_names.f).bind fun t303 => (if t303 = true then ((some (([] : List (S83)) : List (S83))).bind fun y304 => (if y304.length + l0_1.length < 8796093022208 then ((some (y304 ++ l0_1 : List (S83))).bind fun y307 => ((book_CT.f k l0_2 l0_3 a0_4).bind fun bt310 => ((stim_Print.f a0_0 y307 bt310.1 bt310.2.1 bt310.2.2 a1_0 a1_1).bind fun bt318 => ((trestleref12_Print.f a0_0 l0_1 l0_2 l0_3 a0_4 a1_0 a1_1).bind fun bt320 => (if bt318.1.toList = bt320.1.toList then (if bt318.2 = bt320.2 then ((stim_Check.f k a0_0 y307 bt310.1 bt310.2.1 bt310.2.2 a1_0 a1_1).bind fun t322 => ((trestleref12_Check.f k a0_0 l0_1 l0_2 l0_3 a0_4 a1_0 a1_1).bind fun t323 => (if t322 = t323 then ((trestlelaw12_same.f k a0_0 y307 bt310.1 bt310.2.1 bt310.2.2 a0_0 l0_1 l0_2 l0_3 a0_4).bind fun t324 => (if t324 = true then ((trestlelaw12_works.f k).bind fun t325 => (some t325)) else (none))) else (none)))) else (none)) else (none)))))) else (none))) else (none))) = some r:=h
 clear h
 replace H:=Option.bind_eq_some_iff.mp H
 obtain ⟨t303,A30,H⟩:=H
 replace H : (if t303 = true then ((some (([] : List (S83)) : List (S83))).bind fun y304 => (if y304.length + l0_1.length < 8796093022208 then ((some (y304 ++ l0_1 : List (S83))).bind fun y307 => ((book_CT.f k l0_2 l0_3 a0_4).bind fun bt310 => ((stim_Print.f a0_0 y307 bt310.1 bt310.2.1 bt310.2.2 a1_0 a1_1).bind fun bt318 => ((trestleref12_Print.f a0_0 l0_1 l0_2 l0_3 a0_4 a1_0 a1_1).bind fun bt320 => (if bt318.1.toList = bt320.1.toList then (if bt318.2 = bt320.2 then ((stim_Check.f k a0_0 y307 bt310.1 bt310.2.1 bt310.2.2 a1_0 a1_1).bind fun t322 => ((trestleref12_Check.f k a0_0 l0_1 l0_2 l0_3 a0_4 a1_0 a1_1).bind fun t323 => (if t322 = t323 then ((trestlelaw12_same.f k a0_0 y307 bt310.1 bt310.2.1 bt310.2.2 a0_0 l0_1 l0_2 l0_3 a0_4).bind fun t324 => (if t324 = true then ((trestlelaw12_works.f k).bind fun t325 => (some t325)) else (none))) else (none)))) else (none)) else (none)))))) else (none))) else (none)) = some r:=H
 have A3:=A0_.mk A30
 clear A30
 by_cases c4 : t303 = true
 ·subst c4
  have H1 : ((some (([] : List (S83)) : List (S83))).bind fun y304 => (if y304.length + l0_1.length < 8796093022208 then ((some (y304 ++ l0_1 : List (S83))).bind fun y307 => ((book_CT.f k l0_2 l0_3 a0_4).bind fun bt310 => ((stim_Print.f a0_0 y307 bt310.1 bt310.2.1 bt310.2.2 a1_0 a1_1).bind fun bt318 => ((trestleref12_Print.f a0_0 l0_1 l0_2 l0_3 a0_4 a1_0 a1_1).bind fun bt320 => (if bt318.1.toList = bt320.1.toList then (if bt318.2 = bt320.2 then ((stim_Check.f k a0_0 y307 bt310.1 bt310.2.1 bt310.2.2 a1_0 a1_1).bind fun t322 => ((trestleref12_Check.f k a0_0 l0_1 l0_2 l0_3 a0_4 a1_0 a1_1).bind fun t323 => (if t322 = t323 then ((trestlelaw12_same.f k a0_0 y307 bt310.1 bt310.2.1 bt310.2.2 a0_0 l0_1 l0_2 l0_3 a0_4).bind fun t324 => (if t324 = true then ((trestlelaw12_works.f k).bind fun t325 => (some t325)) else (none))) else (none)))) else (none)) else (none)))))) else (none))) = some r:=by rw [if_pos rfl] at H;exact H
  clear H
  have H:=H1
  clear H1
  obtain ⟨y304,hy304⟩ : ∃ y_ : List (S83),y_ = (([] : List (S83))):=⟨_,rfl⟩
  replace H : (if y304.length + l0_1.length < 8796093022208 then ((some (y304 ++ l0_1 : List (S83))).bind fun y307 => ((book_CT.f k l0_2 l0_3 a0_4).bind fun bt310 => ((stim_Print.f a0_0 y307 bt310.1 bt310.2.1 bt310.2.2 a1_0 a1_1).bind fun bt318 => ((trestleref12_Print.f a0_0 l0_1 l0_2 l0_3 a0_4 a1_0 a1_1).bind fun bt320 => (if bt318.1.toList = bt320.1.toList then (if bt318.2 = bt320.2 then ((stim_Check.f k a0_0 y307 bt310.1 bt310.2.1 bt310.2.2 a1_0 a1_1).bind fun t322 => ((trestleref12_Check.f k a0_0 l0_1 l0_2 l0_3 a0_4 a1_0 a1_1).bind fun t323 => (if t322 = t323 then ((trestlelaw12_same.f k a0_0 y307 bt310.1 bt310.2.1 bt310.2.2 a0_0 l0_1 l0_2 l0_3 a0_4).bind fun t324 => (if t324 = true then ((trestlelaw12_works.f k).bind fun t325 => (some t325)) else (none))) else (none)))) else (none)) else (none)))))) else (none)) = some r:=by first|(rw [hy304];with_reducible exact H)|(have H2_:=(Option.bind_some _ _).symm.trans H;rw [hy304];with_reducible exact H2_)|(have H2_:=(Option.bind_some _ _).symm.trans H;with_reducible exact H2_)|with_reducible exact H|(rw [hy304];exact H)|exact H
  have Ny304:=A0_.mk hy304
  clear hy304
  by_cases c5 : y304.length + l0_1.length < 8796093022208
  ·rw [if_pos c5] at H
   have LMc5:=A0_.mk c5
   clear c5
   obtain ⟨y307,hy307⟩ : ∃ y_ : List (S83),y_ = (y304 ++ l0_1):=⟨_,rfl⟩
   replace H : ((book_CT.f k l0_2 l0_3 a0_4).bind fun bt310 => ((stim_Print.f a0_0 y307 bt310.1 bt310.2.1 bt310.2.2 a1_0 a1_1).bind fun bt318 => ((trestleref12_Print.f a0_0 l0_1 l0_2 l0_3 a0_4 a1_0 a1_1).bind fun bt320 => (if bt318.1.toList = bt320.1.toList then (if bt318.2 = bt320.2 then ((stim_Check.f k a0_0 y307 bt310.1 bt310.2.1 bt310.2.2 a1_0 a1_1).bind fun t322 => ((trestleref12_Check.f k a0_0 l0_1 l0_2 l0_3 a0_4 a1_0 a1_1).bind fun t323 => (if t322 = t323 then ((trestlelaw12_same.f k a0_0 y307 bt310.1 bt310.2.1 bt310.2.2 a0_0 l0_1 l0_2 l0_3 a0_4).bind fun t324 => (if t324 = true then ((trestlelaw12_works.f k).bind fun t325 => (some t325)) else (none))) else (none)))) else (none)) else (none))))) = some r:=by first|(rw [hy307];with_reducible exact H)|(have H2_:=(Option.bind_some _ _).symm.trans H;rw [hy307];with_reducible exact H2_)|(have H2_:=(Option.bind_some _ _).symm.trans H;with_reducible exact H2_)|with_reducible exact H|(rw [hy307];exact H)|exact H
   have Ny307:=A0_.mk hy307
   clear hy307
   replace H:=Option.bind_eq_some_iff.mp H
   obtain ⟨⟨t310,t313,t316⟩,A60,H⟩:=H
   replace H : ((stim_Print.f a0_0 y307 t310 t313 t316 a1_0 a1_1).bind fun bt318 => ((trestleref12_Print.f a0_0 l0_1 l0_2 l0_3 a0_4 a1_0 a1_1).bind fun bt320 => (if bt318.1.toList = bt320.1.toList then (if bt318.2 = bt320.2 then ((stim_Check.f k a0_0 y307 t310 t313 t316 a1_0 a1_1).bind fun t322 => ((trestleref12_Check.f k a0_0 l0_1 l0_2 l0_3 a0_4 a1_0 a1_1).bind fun t323 => (if t322 = t323 then ((trestlelaw12_same.f k a0_0 y307 t310 t313 t316 a0_0 l0_1 l0_2 l0_3 a0_4).bind fun t324 => (if t324 = true then ((trestlelaw12_works.f k).bind fun t325 => (some t325)) else (none))) else (none)))) else (none)) else (none)))) = some r:=H
   have A6:=A0_.mk A60
   clear A60
   replace H:=Option.bind_eq_some_iff.mp H
   obtain ⟨⟨t318,t319⟩,A70,H⟩:=H
   replace H : ((trestleref12_Print.f a0_0 l0_1 l0_2 l0_3 a0_4 a1_0 a1_1).bind fun bt320 => (if t318.toList = bt320.1.toList then (if t319 = bt320.2 then ((stim_Check.f k a0_0 y307 t310 t313 t316 a1_0 a1_1).bind fun t322 => ((trestleref12_Check.f k a0_0 l0_1 l0_2 l0_3 a0_4 a1_0 a1_1).bind fun t323 => (if t322 = t323 then ((trestlelaw12_same.f k a0_0 y307 t310 t313 t316 a0_0 l0_1 l0_2 l0_3 a0_4).bind fun t324 => (if t324 = true then ((trestlelaw12_works.f k).bind fun t325 => (some t325)) else (none))) else (none)))) else (none)) else (none))) = some r:=H
   have A7:=A0_.mk A70
   clear A70
   replace H:=Option.bind_eq_some_iff.mp H
   obtain ⟨⟨t320,t321⟩,A80,H⟩:=H
   replace H : (if t318.toList = t320.toList then (if t319 = t321 then ((stim_Check.f k a0_0 y307 t310 t313 t316 a1_0 a1_1).bind fun t322 => ((trestleref12_Check.f k a0_0 l0_1 l0_2 l0_3 a0_4 a1_0 a1_1).bind fun t323 => (if t322 = t323 then ((trestlelaw12_same.f k a0_0 y307 t310 t313 t316 a0_0 l0_1 l0_2 l0_3 a0_4).bind fun t324 => (if t324 = true then ((trestlelaw12_works.f k).bind fun t325 => (some t325)) else (none))) else (none)))) else (none)) else (none)) = some r:=H
   have A8:=A0_.mk A80
   clear A80
   by_cases c9 : t318.toList = t320.toList
   ·rw [if_pos c9] at H
    have c9b0 : (t318.toList == t320.toList) = true:=beq_iff_eq.mpr c9
    have c9b1 : (t318.toList != t320.toList) = false:=bne_eq_false_iff_eq.mpr c9
    clear c9
    by_cases c10 : t319 = t321
    ·rw [if_pos c10] at H
     have c10b0 : (t319 == t321) = true:=beq_iff_eq.mpr c10
     have c10b1 : (t319 != t321) = false:=bne_eq_false_iff_eq.mpr c10
     clear c10
     replace H:=Option.bind_eq_some_iff.mp H
     obtain ⟨t322,A110,H⟩:=H
     replace H : ((trestleref12_Check.f k a0_0 l0_1 l0_2 l0_3 a0_4 a1_0 a1_1).bind fun t323 => (if t322 = t323 then ((trestlelaw12_same.f k a0_0 y307 t310 t313 t316 a0_0 l0_1 l0_2 l0_3 a0_4).bind fun t324 => (if t324 = true then ((trestlelaw12_works.f k).bind fun t325 => (some t325)) else (none))) else (none))) = some r:=H
     have A11:=A0_.mk A110
     clear A110
     replace H:=Option.bind_eq_some_iff.mp H
     obtain ⟨t323,A120,H⟩:=H
     replace H : (if t322 = t323 then ((trestlelaw12_same.f k a0_0 y307 t310 t313 t316 a0_0 l0_1 l0_2 l0_3 a0_4).bind fun t324 => (if t324 = true then ((trestlelaw12_works.f k).bind fun t325 => (some t325)) else (none))) else (none)) = some r:=H
     have A12:=A0_.mk A120
     clear A120
     by_cases c13 : t322 = t323
     ·rw [if_pos c13] at H
      have c13b0 : (t322 == t323) = true:=beq_iff_eq.mpr c13
      have c13b1 : (t322 != t323) = false:=bne_eq_false_iff_eq.mpr c13
      clear c13
      replace H:=Option.bind_eq_some_iff.mp H
      obtain ⟨t324,A140,H⟩:=H
      replace H : (if t324 = true then ((trestlelaw12_works.f k).bind fun t325 => (some t325)) else (none)) = some r:=H
      have A14:=A0_.mk A140
      clear A140
      by_cases c15 : t324 = true
      ·subst c15
       have H1 : ((trestlelaw12_works.f k).bind fun t325 => (some t325)) = some r:=by rw [if_pos rfl] at H;exact H
       clear H
       have H:=H1
       clear H1
       replace H:=Option.bind_eq_some_iff.mp H
       obtain ⟨t325,A160,H⟩:=H
       replace H : (some t325) = some r:=H
       have A16:=A0_.mk A160
       clear A160
       obtain rfl:=Option.some.inj H
       go_enter Tryd.func3,Tryd.ntmps3
       try go_wp2_with (first|((with_reducible refine gate_dst (N:=2) rfl ?_);refine box_event ?hg (N:=2) ?hd (cs:=#[.int .i64 a0_0,.slice A0_1 l0_1.length c0_1,.slice A0_2 l0_2.length c0_2,.slice A0_3 l0_3.length c0_3,.int .i64 a0_4]) (t:=28) ?hr ?_;(case hd => rfl);(case hg => rfl);(case hr => first|(go_simp;done)|(go_simp;rfl));intro gb301 hg w17 hbox hb;have n0_:=A0_.mk (below_step (by repeat (first|(with_reducible first|exact HB.out|apply eA_|apply eN_|apply eD_)|exact HB.out)) hb);have n1_:=A0_.mk (hbox);have n2_:=A0_.mk ((by rw [hg];exact (below_size (by repeat (first|(with_reducible first|exact HB.out|apply eA_|apply eN_|apply eD_)|exact HB.out))) : w.heap.size ≤ gb301));have n3_:=A0_.mk ((by rw [hg];exact (below_size (by repeat (first|(with_reducible first|exact HB.out|apply eA_|apply eN_|apply eD_)|exact HB.out))) : w.heap.size ≤ gb301));clear HB;have HB:=n0_;have BK301:=n1_;have GW301:=n2_;have GE301:=n3_;clear n0_ n1_ n2_ n3_;clear hb hbox hg)|((with_reducible refine gate_dst (N:=3) rfl ?_);refine box_event ?hg (N:=3) ?hd (cs:=#[.int .i64 a1_0,.int .i64 a1_1]) (t:=30) ?hr ?_;(case hd => rfl);(case hg => rfl);(case hr => first|(go_simp;done)|(go_simp;rfl));intro gb302 hg w18 hbox hb;have n0_:=A0_.mk (blk_below (g:=gb301) (o:=.cells #[.int .i64 a0_0,.slice A0_1 l0_1.length c0_1,.slice A0_2 l0_2.length c0_2,.slice A0_3 l0_3.length c0_3,.int .i64 a0_4] 28 (0,0)) (by (with_reducible repeat (first|refine bN_ ?_ _|refine bD_ ?_|refine bA_ ?_ _));exact BK301.out) hb);have n1_:=A0_.mk (below_step (by repeat (first|(with_reducible first|exact HB.out|apply eA_|apply eN_|apply eD_|refine eS_ ?_ GE301.out)|exact HB.out)) hb);have n2_:=A0_.mk (hbox);have n3_:=A0_.mk ((by rw [hg];exact (below_size (by repeat (first|(with_reducible first|exact HB.out|apply eA_|apply eN_|apply eD_|refine eS_ ?_ GE301.out)|exact HB.out))) : w.heap.size ≤ gb302));have n4_:=A0_.mk ((by rw [hg];exact (below_size (by repeat (first|(with_reducible first|exact HB.out|apply eA_|apply eN_|apply eD_|refine eS_ ?_ GE301.out)|exact HB.out))) : w.heap.size ≤ gb302));have n5_:=A0_.mk ((by rw [hg];exact Nat.ne_of_lt (blk_lt (g:=gb301) (o:=.cells #[.int .i64 a0_0,.slice A0_1 l0_1.length c0_1,.slice A0_2 l0_2.length c0_2,.slice A0_3 l0_3.length c0_3,.int .i64 a0_4] 28 (0,0)) (by (with_reducible repeat (first|refine bN_ ?_ _|refine bD_ ?_|refine bA_ ?_ _));exact BK301.out)) : gb301 ≠ gb302));have n6_:=A0_.mk ((by rw [hg];exact Nat.ne_of_gt (blk_lt (g:=gb301) (o:=.cells #[.int .i64 a0_0,.slice A0_1 l0_1.length c0_1,.slice A0_2 l0_2.length c0_2,.slice A0_3 l0_3.length c0_3,.int .i64 a0_4] 28 (0,0)) (by (with_reducible repeat (first|refine bN_ ?_ _|refine bD_ ?_|refine bA_ ?_ _));exact BK301.out)) : gb302 ≠ gb301));clear BK301;clear HB;have BK301:=n0_;have HB:=n1_;have BK302:=n2_;have GW302:=n3_;have GE302:=n4_;have NB301_302:=n5_;have NB302_301:=n6_;clear n0_ n1_ n2_ n3_ n4_ n5_ n6_;clear hb hbox hg)|((with_reducible refine gate_callee (f:=11) rfl ?_);refine goesL_ (some 10) rfl rfl Tryd.func11 (by kernel_rfl) rfl #[] rfl (by (try simp only [List.map_toArray,List.map_cons,List.map_nil]);first|done|rfl|(simp only [List.length_drop,List.length_take];rfl)) ?_;(with_reducible refine (trestlelaw12_names.calls  true _ A3.out).mono ?_);rintro e w' ⟨rfl,⟨nd,rfl⟩⟩;refine ⟨_,rfl,?_⟩;(try (rw [drewN_self w18];generalize hq_ : World.drewN w18 _ = w18;have n0_ : A0_ (w18.heap[gb301]? = some (.cells #[.int .i64 a0_0,.slice A0_1 l0_1.length c0_1,.slice A0_2 l0_2.length c0_2,.slice A0_3 l0_3.length c0_3,.int .i64 a0_4] 28 (0,0))):=⟨by rw [← hq_];exact (by (with_reducible repeat (first|refine bN_ ?_ _|refine bD_ ?_|refine bA_ ?_ _));exact BK301.out)⟩;have n1_ : A0_ (w18.heap[gb302]? = some (.cells #[.int .i64 a1_0,.int .i64 a1_1] 30 (0,0))):=⟨by rw [← hq_];exact (by (with_reducible repeat (first|refine bN_ ?_ _|refine bD_ ?_|refine bA_ ?_ _));exact BK302.out)⟩;have n2_ : A0_ (Below w.heap.size w w18):=⟨by rw [← hq_];exact (by repeat (first|(with_reducible first|exact HB.out|apply eA_|apply eN_|apply eD_|refine eS_ ?_ GE301.out|refine eS_ ?_ GE302.out)|exact HB.out))⟩;clear BK301 BK302 HB hq_;have BK301:=n0_;have BK302:=n1_;have HB:=n2_;clear n0_ n1_ n2_))))
       have n0_:=A0_.mk (bD_ BK301.out)
       have n1_:=A0_.mk (bD_ BK302.out)
       have n2_:=A0_.mk (eD_ HB.out)
       clear BK301
       clear BK302
       clear HB
       have BK301:=n0_
       have BK302:=n1_
       have HB:=n2_
       clear n0_ n1_ n2_
       refine start_ (n:=12) (S:=fun w' => w'.cell? ⟨gb301,0,none⟩ = some (.int .i64 a0_0) ∧ w'.cell? ⟨gb301,1,none⟩ = some (.slice A0_1 l0_1.length c0_1) ∧ w'.cell? ⟨gb301,2,none⟩ = some (.slice A0_2 l0_2.length c0_2) ∧ w'.cell? ⟨gb301,3,none⟩ = some (.slice A0_3 l0_3.length c0_3) ∧ w'.cell? ⟨gb301,4,none⟩ = some (.int .i64 a0_4)) (ds:=[]) #[false,false,false,false,false,false,false,false,false,false,false,false] (by kernel_rfl) rfl rfl ⟨(bC_ BK301.out 0).trans rfl,(bC_ BK301.out 1).trans rfl,(bC_ BK301.out 2).trans rfl,(bC_ BK301.out 3).trans rfl,(bC_ BK301.out 4).trans rfl⟩ (fun hHeld => ?_);refine with_tabW trestlelaw12_StimPrints.tab3 trestlelaw12_StimPrints.bits3 (fun HT_ HW_ => ?_)
       generalize w18.drew = w19 at BK301 BK302 HB hHeld ⊢
       refine pure_ (i:=0) (N:=some 12) (v:=?_) (a':=?_) #[true,false,false,false,false,false,false,false,false,false,false,false] rfl rfl (any_of HT_.out (by kernel_rfl)) (fun _ _ _ h => h) (Or.inl ⟨by rfl,?_⟩) ?_ ?_
       rotate_left
       ·intro w'
        go_simp
        with_reducible rfl
       rotate_left
       ·simp only [Act.put,List.setIfInBounds_toArray,List.set_cons_zero,List.set_cons_succ,i64_w,i32_w]
        rfl
       refine pure_ (i:=3) (N:=some 15) (v:=?_) (a':=?_) #[true,false,false,true,false,false,false,false,false,false,false,false] rfl rfl (any_of HT_.out (by kernel_rfl)) (fun _ _ _ h => h) (Or.inl ⟨by rfl,?_⟩) ?_ ?_
       rotate_left
       ·intro w'
        go_simp
        with_reducible rfl
       rotate_left
       ·simp only [Act.put,List.setIfInBounds_toArray,List.set_cons_zero,List.set_cons_succ,i64_w,i32_w]
        rfl
       refine pure_ (i:=6) (N:=some 18) (v:=?_) (a':=?_) #[true,false,false,true,false,false,true,false,false,false,false,false] rfl rfl (any_of HT_.out (by kernel_rfl)) (fun _ _ _ h => h) (Or.inl ⟨by rfl,?_⟩) ?_ ?_
       rotate_left
       ·intro w'
        go_simp
        with_reducible rfl
       rotate_left
       ·simp only [Act.put,List.setIfInBounds_toArray,List.set_cons_zero,List.set_cons_succ,i64_w,i32_w]
        rfl
       refine take_ (i:=1) (N:=some 13) (v:=?_) (a':=?_) #[true,true,false,true,false,false,true,false,false,false,false,false] rfl rfl (take_ofW HT_.out HW_.out (by kernel_rfl)) (fun _ _ _ h => h) (Or.inl ⟨by rfl,?_⟩) hHeld ?_ ?_
       rotate_left
       ·rintro w' ⟨s0,s1,s2,s3,s4⟩
        go_simp
        with_reducible rfl
       rotate_left
       ·simp only [Act.put,List.setIfInBounds_toArray,List.set_cons_zero,List.set_cons_succ,i64_w,i32_w]
        rfl
       refine take_ (i:=4) (N:=some 16) (v:=?_) (a':=?_) #[true,true,false,true,true,false,true,false,false,false,false,false] rfl rfl (take_ofW HT_.out HW_.out (by kernel_rfl)) (fun _ _ _ h => h) (Or.inl ⟨by rfl,?_⟩) hHeld ?_ ?_
       rotate_left
       ·rintro w' ⟨s0,s1,s2,s3,s4⟩
        go_simp
        with_reducible rfl
       rotate_left
       ·simp only [Act.put,List.setIfInBounds_toArray,List.set_cons_zero,List.set_cons_succ,i64_w,i32_w]
        rfl
       refine take_ (i:=7) (N:=some 19) (v:=?_) (a':=?_) #[true,true,false,true,true,false,true,true,false,false,false,false] rfl rfl (take_ofW HT_.out HW_.out (by kernel_rfl)) (fun _ _ _ h => h) (Or.inl ⟨by rfl,?_⟩) hHeld ?_ ?_
       rotate_left
       ·rintro w' ⟨s0,s1,s2,s3,s4⟩
        go_simp
        with_reducible rfl
       rotate_left
       ·simp only [Act.put,List.setIfInBounds_toArray,List.set_cons_zero,List.set_cons_succ,i64_w,i32_w]
        rfl
       refine join_ (σ:=Value × Value × Value × Value × Nat) 1 #[true,true,true,true,true,true,true,true,true,true,true,false] (fun s_ => [(14,s_.1),(17,s_.2.1),(20,.agg #[s_.2.2.1,s_.2.2.2.1,.int .i64 t316]),(5,.pointer (some ⟨s_.2.2.2.2,0,none⟩)),(21,.agg #[.int .i64 a0_0,s_.2.1,s_.2.2.1,s_.2.2.2.1,.int .i64 t316])]) (fun s_ w' => (w'.cell? ⟨gb301,0,none⟩ = some (.int .i64 a0_0) ∧ w'.cell? ⟨gb301,1,none⟩ = some (.slice A0_1 l0_1.length c0_1) ∧ w'.cell? ⟨gb301,2,none⟩ = some (.slice A0_2 l0_2.length c0_2) ∧ w'.cell? ⟨gb301,3,none⟩ = some (.slice A0_3 l0_3.length c0_3) ∧ w'.cell? ⟨gb301,4,none⟩ = some (.int .i64 a0_4)) ∧ (Kd.R k83 83 w' w.heap.size (fun _ => True) s_.2.1 y307) ∧ (Kd.R Kd.bool 4 w' w.heap.size (fun _ => True) s_.2.2.1 t310) ∧ (Kd.S (Kd.slice 4 Kd.bool) 23 w' w.heap.size (fun k_ => some k_ ≠ (s_.2.2.1 : Value).ownBlock) s_.2.2.2.1 t313) ∧ (w'.heap[gb301]? = some (.cells #[.int .i64 a0_0,.slice A0_1 l0_1.length c0_1,.slice A0_2 l0_2.length c0_2,.slice A0_3 l0_3.length c0_3,.int .i64 a0_4] 28 (0,0))) ∧ (w'.heap[gb302]? = some (.cells #[.int .i64 a1_0,.int .i64 a1_1] 30 (0,0))) ∧ (w'.heap[s_.2.2.2.2]? = some (.cells #[.int .i64 0,.slice none 0 0,.slice none 0 0,.slice none 0 0,.int .i64 0] 28 (0,0))) ∧ (w.heap.size ≤ s_.2.2.2.2) ∧ (w.heap.size ≤ s_.2.2.2.2) ∧ (gb301 ≠ s_.2.2.2.2) ∧ (s_.2.2.2.2 ≠ gb301) ∧ (gb302 ≠ s_.2.2.2.2) ∧ (s_.2.2.2.2 ≠ gb302) ∧ (Below w.heap.size w w')) ?_ ?_
       rotate_left
       ·intro hCont
        refine two_ (i:=2) (j:=10) (Ni:=some 14) (Nj:=some 5) #[true,true,true,true,true,false,true,true,false,false,false,false] #[true,true,false,true,true,false,true,true,false,false,true,false] rfl rfl rfl rfl (two_of HT_.out (by kernel_rfl)) (by decide) (by decide) (fun K hK => ?_) (fun K hK => ?_)
        ·skip
         refine Kd.R_lit_step k83 _ 83 ?hg (N:=14) ?hd (xs:=([] : List (S83))) (inner:=[]) (ok:=fun _ => True) (okp:=fun _ => True) ?hr ?hp (fun _ hk => hk) trivial (Below.refl _ _) (Nat.le_refl _) (by simp) ?_;(case hd => rfl);(case hg => rfl);(case hr => first|(go_simp;done)|(go_simp;rfl));(case hp => exact (Reps.none _ _))
         intro v305 w20 ho21 hb hg_ hnew_
         clear hg_ hnew_
         (first|rw [← Ny304.out] at ho21|(simp only [Int.reduceToNat] at ho21;rw [← Ny304.out] at ho21))
         have n0_:=A0_.mk (Kd.R_lower ho21 (below_size (by repeat (first|(with_reducible first|exact HB.out|apply eA_|apply eN_|apply eD_|refine eS_ ?_ GE301.out|refine eS_ ?_ GE302.out)|exact HB.out))))
         have n1_:=A0_.mk (blk_below (g:=gb301) (o:=.cells #[.int .i64 a0_0,.slice A0_1 l0_1.length c0_1,.slice A0_2 l0_2.length c0_2,.slice A0_3 l0_3.length c0_3,.int .i64 a0_4] 28 (0,0)) (by (with_reducible repeat (first|refine bN_ ?_ _|refine bD_ ?_|refine bA_ ?_ _));exact BK301.out) hb)
         have n2_:=A0_.mk (blk_below (g:=gb302) (o:=.cells #[.int .i64 a1_0,.int .i64 a1_1] 30 (0,0)) (by (with_reducible repeat (first|refine bN_ ?_ _|refine bD_ ?_|refine bA_ ?_ _));exact BK302.out) hb)
         have n3_:=A0_.mk (below_step (by repeat (first|(with_reducible first|exact HB.out|apply eA_|apply eN_|apply eD_|refine eS_ ?_ GE301.out|refine eS_ ?_ GE302.out)|exact HB.out)) hb)
         clear BK301
         clear BK302
         clear HB
         have HO306:=n0_
         have BK301:=n1_
         have BK302:=n2_
         have HB:=n3_
         clear n0_ n1_ n2_ n3_
         clear hb ho21
         refine hK.out _ _ ⟨(bC_ BK301.out 0).trans rfl,(bC_ BK301.out 1).trans rfl,(bC_ BK301.out 2).trans rfl,(bC_ BK301.out 3).trans rfl,(bC_ BK301.out 4).trans rfl⟩ (fun hHeld => ?_)
         clear hK K
         refine norm_ (a':=?_) ?_ ?_
         rotate_left
         ·show Act.put _ (some 14) _ = _
          simp only [Act.put,List.setIfInBounds_toArray,List.set_cons_zero,List.set_cons_succ,i64_w,i32_w]
          rfl
         refine two_ (i:=5) (j:=10) (Ni:=some 17) (Nj:=some 5) #[true,true,true,true,true,true,true,true,false,false,false,false] #[true,true,true,true,true,false,true,true,false,false,true,false] rfl rfl rfl rfl (two_of HT_.out (by kernel_rfl)) (by decide) (by decide) (fun K hK => ?_) (fun K hK => ?_)
         ·skip
          refine Kd.R_append_rows_step k83 (w0:=w) w.heap.size (by rfl) (.tmp 14) (.tmp 16) 22 83 (.agg #[(.int .u8 0),(.int .i64 0)]) 16 rfl Tryd.underlying22 info83 rfl (by decide) (by omega) v305 y304 l0_1 _ _ _ (fun _ => True) (fun _ => False) rfl rfl ?aO ?aR (fun _ _ h => h) (fun _ h => h.elim) ?aF ?aB ?aS ?aL ?_
          (case aR => repeat (first|exact (Kd.C_below HR0_1.out HB.out)|(with_reducible refine Kd.C_alloc ?_ _)|(with_reducible refine Kd.C_drewN ?_ _)|(with_reducible refine Kd.C_drew ?_)))
          (case aB => exact (by repeat (first|(with_reducible first|exact HB.out|apply eA_|apply eN_|apply eD_|refine eS_ ?_ GE301.out|refine eS_ ?_ GE302.out)|exact HB.out)))
          (case aF => exact (fun _ _ => trivial))
          (case aO => exact (by (with_reducible repeat (first|apply Kd.R_alloc|apply Kd.R_drewN|apply Kd.R_drew));exact HO306.out))
          (case aS => exact (below_size (by repeat (first|(with_reducible first|exact HB.out|apply eA_|apply eN_|apply eD_|refine eS_ ?_ GE301.out|refine eS_ ?_ GE302.out)|exact HB.out))))
          (case aL => have:=LMc5.out;omega)
          intro v308 w22 ho hb hg hat
          rw [← Ny307.out] at ho
          have n0_:=A0_.mk (blk_grown (g:=gb301) (o:=.cells #[.int .i64 a0_0,.slice A0_1 l0_1.length c0_1,.slice A0_2 l0_2.length c0_2,.slice A0_3 l0_3.length c0_3,.int .i64 a0_4] 28 (0,0)) (by (with_reducible repeat (first|refine bN_ ?_ _|refine bD_ ?_|refine bA_ ?_ _));exact BK301.out) hg (Kd.R_ne HO306.out BK301.out (by decide)))
          have n1_:=A0_.mk (blk_grown (g:=gb302) (o:=.cells #[.int .i64 a1_0,.int .i64 a1_1] 30 (0,0)) (by (with_reducible repeat (first|refine bN_ ?_ _|refine bD_ ?_|refine bA_ ?_ _));exact BK302.out) hg (Kd.R_ne HO306.out BK302.out (by decide)))
          have n2_:=A0_.mk (hb)
          have n3_:=A0_.mk (ho)
          clear BK301
          clear BK302
          clear HB
          clear HO306
          have BK301:=n0_
          have BK302:=n1_
          have HB:=n2_
          have HO309:=n3_
          clear n0_ n1_ n2_ n3_
          clear ho hb hg hat
          refine hK.out _ _ ⟨(bC_ BK301.out 0).trans rfl,(bC_ BK301.out 1).trans rfl,(bC_ BK301.out 2).trans rfl,(bC_ BK301.out 3).trans rfl,(bC_ BK301.out 4).trans rfl⟩ (fun hHeld => ?_)
          clear hK K
          refine norm_ (a':=?_) ?_ ?_
          rotate_left
          ·show Act.put _ (some 17) _ = _
           simp only [Act.put,List.setIfInBounds_toArray,List.set_cons_zero,List.set_cons_succ,i64_w,i32_w]
           rfl
          refine two_ (i:=8) (j:=10) (Ni:=some 20) (Nj:=some 5) #[true,true,true,true,true,true,true,true,true,false,false,false] #[true,true,true,true,true,true,true,true,false,false,true,false] rfl rfl rfl rfl (two_of HT_.out (by kernel_rfl)) (by decide) (by decide) (fun K hK => ?_) (fun K hK => ?_)
          ·skip
           refine goes_ Tryd.func12 (by kernel_rfl) rfl #[.agg #[.slice A0_2 l0_2.length c0_2,.slice A0_3 l0_3.length c0_3,.int .i64 a0_4]] (by rfl) rfl rfl (by (try simp only [List.map_toArray,List.map_cons,List.map_nil]);first|done|rfl|(simp only [List.length_drop,List.length_take];rfl)) ?_
           with_reducible refine (book_CT.calls k _ _ l0_2 _ _ l0_3 a0_4 t310 t313 t316 _ ?side1 ?side2 ?side3 ?side4 A6.out).mono ?_
           (case side1 => repeat (first|exact (Kd.C_below HR0_2.out HB.out)|(with_reducible refine Kd.C_alloc ?_ _)|(with_reducible refine Kd.C_drewN ?_ _)|(with_reducible refine Kd.C_drew ?_)))
           (case side2 => exact HC0_2.out)
           (case side3 => repeat (first|exact (Kd.C_below HR0_3.out HB.out)|(with_reducible refine Kd.C_alloc ?_ _)|(with_reducible refine Kd.C_drewN ?_ _)|(with_reducible refine Kd.C_drew ?_)))
           (case side4 => exact HC0_3.out)
           rintro e w23 ⟨v311,v314,rfl,ho0,ho1,hb⟩
           refine ⟨_,rfl,?_⟩
           have n0_:=A0_.mk (Kd.R_below (by (with_reducible repeat (first|apply Kd.R_alloc|apply Kd.R_drewN|apply Kd.R_drew));exact HO309.out) hb)
           have n1_:=A0_.mk (Kd.R_lower ho0 (below_size (by repeat (first|(with_reducible first|exact HB.out|apply eA_|apply eN_|apply eD_|refine eS_ ?_ GE301.out|refine eS_ ?_ GE302.out)|exact HB.out))))
           have n2_:=A0_.mk (Kd.S_lower ho1 (below_size (by repeat (first|(with_reducible first|exact HB.out|apply eA_|apply eN_|apply eD_|refine eS_ ?_ GE301.out|refine eS_ ?_ GE302.out)|exact HB.out))))
           have n3_:=A0_.mk (blk_below (g:=gb301) (o:=.cells #[.int .i64 a0_0,.slice A0_1 l0_1.length c0_1,.slice A0_2 l0_2.length c0_2,.slice A0_3 l0_3.length c0_3,.int .i64 a0_4] 28 (0,0)) (by (with_reducible repeat (first|refine bN_ ?_ _|refine bD_ ?_|refine bA_ ?_ _));exact BK301.out) hb)
           have n4_:=A0_.mk (blk_below (g:=gb302) (o:=.cells #[.int .i64 a1_0,.int .i64 a1_1] 30 (0,0)) (by (with_reducible repeat (first|refine bN_ ?_ _|refine bD_ ?_|refine bA_ ?_ _));exact BK302.out) hb)
           have n5_:=A0_.mk (below_step (by repeat (first|(with_reducible first|exact HB.out|apply eA_|apply eN_|apply eD_|refine eS_ ?_ GE301.out|refine eS_ ?_ GE302.out)|exact HB.out)) hb)
           clear HO309
           clear BK301
           clear BK302
           clear HB
           have HO309:=n0_
           have HO312:=n1_
           have HO315:=n2_
           have BK301:=n3_
           have BK302:=n4_
           have HB:=n5_
           clear n0_ n1_ n2_ n3_ n4_ n5_
           (try clear hb)
           (try clear hb2)
           (try clear hk)
           (try clear hi)
           (try clear ho0)
           (try clear ho1)
           obtain ⟨Ao24,co24,eo24⟩:=Kd.S_slice HO315.out
           (first|subst eo24|(injection eo24 with f1_ f2_ f3_;have f4_:=f1_.symm;have f5_:=f3_.symm;clear f1_ f2_ f3_;subst f4_;subst f5_))
           obtain ⟨Ao25,co25,eo25⟩:=Kd.R_slice HO312.out
           (first|subst eo25|(injection eo25 with f1_ f2_ f3_;have f4_:=f1_.symm;have f5_:=f3_.symm;clear f1_ f2_ f3_;subst f4_;subst f5_))
           obtain ⟨Ao26,co26,eo26⟩:=Kd.R_slice HO309.out
           (first|subst eo26|(injection eo26 with f1_ f2_ f3_;have f4_:=f1_.symm;have f5_:=f3_.symm;clear f1_ f2_ f3_;subst f4_;subst f5_))
           refine hK.out _ _ ⟨(bC_ BK301.out 0).trans rfl,(bC_ BK301.out 1).trans rfl,(bC_ BK301.out 2).trans rfl,(bC_ BK301.out 3).trans rfl,(bC_ BK301.out 4).trans rfl⟩ (fun hHeld => ?_)
           clear hK K
           refine norm_ (a':=?_) ?_ ?_
           rotate_left
           ·show Act.put _ (some 20) _ = _
            simp only [Act.put,List.setIfInBounds_toArray,List.set_cons_zero,List.set_cons_succ,i64_w,i32_w]
            rfl
           refine pure_ (i:=9) (N:=some 21) (v:=?_) (a':=?_) #[true,true,true,true,true,true,true,true,true,true,false,false] rfl rfl (any_of HT_.out (by kernel_rfl)) (fun _ _ _ h => h) (Or.inl ⟨by rfl,?_⟩) ?_ ?_
           rotate_left
           ·intro w'
            go_simp
            with_reducible rfl
           rotate_left
           ·simp only [Act.put,List.setIfInBounds_toArray,List.set_cons_zero,List.set_cons_succ,i64_w,i32_w]
            rfl
           refine one_ (i:=10) (N:=some 5) #[true,true,true,true,true,true,true,true,true,true,true,false] rfl rfl (one_of HT_.out (by kernel_rfl)) (by decide) (fun K hK => ?_)
           refine box_step ?hg (N:=5) ?hd (cs:=#[.int .i64 0,.slice none 0 0,.slice none 0 0,.slice none 0 0,.int .i64 0]) (t:=28) ?hr ?_;(case hd => rfl);(case hg => rfl);(case hr => first|(go_simp;done)|(go_simp;rfl))
           intro gb317 hg w27 hbox hb
           have n0_:=A0_.mk (Kd.R_below (by (with_reducible repeat (first|apply Kd.R_alloc|apply Kd.R_drewN|apply Kd.R_drew));exact HO309.out) hb)
           have n1_:=A0_.mk (Kd.R_below (by (with_reducible repeat (first|apply Kd.R_alloc|apply Kd.R_drewN|apply Kd.R_drew));exact HO312.out) hb)
           have n2_:=A0_.mk (Kd.S_below (by (with_reducible repeat (first|apply Kd.S_alloc|apply Kd.S_drewN|apply Kd.S_drew));exact HO315.out) hb)
           have n3_:=A0_.mk (blk_below (g:=gb301) (o:=.cells #[.int .i64 a0_0,.slice A0_1 l0_1.length c0_1,.slice A0_2 l0_2.length c0_2,.slice A0_3 l0_3.length c0_3,.int .i64 a0_4] 28 (0,0)) (by (with_reducible repeat (first|refine bN_ ?_ _|refine bD_ ?_|refine bA_ ?_ _));exact BK301.out) hb)
           have n4_:=A0_.mk (blk_below (g:=gb302) (o:=.cells #[.int .i64 a1_0,.int .i64 a1_1] 30 (0,0)) (by (with_reducible repeat (first|refine bN_ ?_ _|refine bD_ ?_|refine bA_ ?_ _));exact BK302.out) hb)
           have n5_:=A0_.mk (below_step (by repeat (first|(with_reducible first|exact HB.out|apply eA_|apply eN_|apply eD_|refine eS_ ?_ GE301.out|refine eS_ ?_ GE302.out)|exact HB.out)) hb)
           have n6_:=A0_.mk (hbox)
           have n7_:=A0_.mk ((by rw [hg];exact (below_size (by repeat (first|(with_reducible first|exact HB.out|apply eA_|apply eN_|apply eD_|refine eS_ ?_ GE301.out|refine eS_ ?_ GE302.out)|exact HB.out))) : w.heap.size ≤ gb317))
           have n8_:=A0_.mk ((by rw [hg];exact (below_size (by repeat (first|(with_reducible first|exact HB.out|apply eA_|apply eN_|apply eD_|refine eS_ ?_ GE301.out|refine eS_ ?_ GE302.out)|exact HB.out))) : w.heap.size ≤ gb317))
           have n9_:=A0_.mk ((by rw [hg];exact Nat.ne_of_lt (blk_lt (g:=gb301) (o:=.cells #[.int .i64 a0_0,.slice A0_1 l0_1.length c0_1,.slice A0_2 l0_2.length c0_2,.slice A0_3 l0_3.length c0_3,.int .i64 a0_4] 28 (0,0)) (by (with_reducible repeat (first|refine bN_ ?_ _|refine bD_ ?_|refine bA_ ?_ _));exact BK301.out)) : gb301 ≠ gb317))
           have n10_:=A0_.mk ((by rw [hg];exact Nat.ne_of_gt (blk_lt (g:=gb301) (o:=.cells #[.int .i64 a0_0,.slice A0_1 l0_1.length c0_1,.slice A0_2 l0_2.length c0_2,.slice A0_3 l0_3.length c0_3,.int .i64 a0_4] 28 (0,0)) (by (with_reducible repeat (first|refine bN_ ?_ _|refine bD_ ?_|refine bA_ ?_ _));exact BK301.out)) : gb317 ≠ gb301))
           have n11_:=A0_.mk ((by rw [hg];exact Nat.ne_of_lt (blk_lt (g:=gb302) (o:=.cells #[.int .i64 a1_0,.int .i64 a1_1] 30 (0,0)) (by (with_reducible repeat (first|refine bN_ ?_ _|refine bD_ ?_|refine bA_ ?_ _));exact BK302.out)) : gb302 ≠ gb317))
           have n12_:=A0_.mk ((by rw [hg];exact Nat.ne_of_gt (blk_lt (g:=gb302) (o:=.cells #[.int .i64 a1_0,.int .i64 a1_1] 30 (0,0)) (by (with_reducible repeat (first|refine bN_ ?_ _|refine bD_ ?_|refine bA_ ?_ _));exact BK302.out)) : gb317 ≠ gb302))
           clear HO309
           clear HO312
           clear HO315
           clear BK301
           clear BK302
           clear HB
           have HO309:=n0_
           have HO312:=n1_
           have HO315:=n2_
           have BK301:=n3_
           have BK302:=n4_
           have HB:=n5_
           have BK317:=n6_
           have GW317:=n7_
           have GE317:=n8_
           have NB301_317:=n9_
           have NB317_301:=n10_
           have NB302_317:=n11_
           have NB317_302:=n12_
           clear n0_ n1_ n2_ n3_ n4_ n5_ n6_ n7_ n8_ n9_ n10_ n11_ n12_
           clear hb hbox hg
           refine hK.out _ _ ⟨(bC_ BK301.out 0).trans rfl,(bC_ BK301.out 1).trans rfl,(bC_ BK301.out 2).trans rfl,(bC_ BK301.out 3).trans rfl,(bC_ BK301.out 4).trans rfl⟩ (fun hHeld => ?_)
           clear hK K
           refine norm_ (a':=?_) ?_ ?_
           rotate_left
           ·show Act.put _ (some 5) _ = _
            simp only [Act.put,List.setIfInBounds_toArray,List.set_cons_zero,List.set_cons_succ,i64_w,i32_w]
            rfl
           exact norm_ (by simp only [putAll,Act.put,List.setIfInBounds_toArray,List.set_cons_zero,List.set_cons_succ]) (hCont (v305,.slice Ao26 y307.length co26,.slice Ao25 t310.length co25,.slice Ao24 t313.length co24,gb317) _ ⟨hHeld,(by (with_reducible repeat (first|apply Kd.R_alloc|apply Kd.R_drewN|apply Kd.R_drew));exact HO309.out),(by (with_reducible repeat (first|apply Kd.R_alloc|apply Kd.R_drewN|apply Kd.R_drew));exact HO312.out),(by (with_reducible repeat (first|apply Kd.S_alloc|apply Kd.S_drewN|apply Kd.S_drew));exact HO315.out),(by (with_reducible repeat (first|refine bN_ ?_ _|refine bD_ ?_|refine bA_ ?_ _));exact BK301.out),(by (with_reducible repeat (first|refine bN_ ?_ _|refine bD_ ?_|refine bA_ ?_ _));exact BK302.out),(by (with_reducible repeat (first|refine bN_ ?_ _|refine bD_ ?_|refine bA_ ?_ _));exact BK317.out),GW317.out,GE317.out,NB301_317.out,NB317_301.out,NB302_317.out,NB317_302.out,(by repeat (first|(with_reducible first|exact HB.out|apply eA_|apply eN_|apply eD_|refine eS_ ?_ GE301.out|refine eS_ ?_ GE302.out|refine eS_ ?_ GE317.out)|exact HB.out))⟩)
          ·skip
           refine box_step ?hg (N:=5) ?hd (cs:=#[.int .i64 0,.slice none 0 0,.slice none 0 0,.slice none 0 0,.int .i64 0]) (t:=28) ?hr ?_;(case hd => rfl);(case hg => rfl);(case hr => first|(go_simp;done)|(go_simp;rfl))
           intro gb317 hg w23 hbox hb
           have n0_:=A0_.mk (Kd.R_below (by (with_reducible repeat (first|apply Kd.R_alloc|apply Kd.R_drewN|apply Kd.R_drew));exact HO309.out) hb)
           have n1_:=A0_.mk (blk_below (g:=gb301) (o:=.cells #[.int .i64 a0_0,.slice A0_1 l0_1.length c0_1,.slice A0_2 l0_2.length c0_2,.slice A0_3 l0_3.length c0_3,.int .i64 a0_4] 28 (0,0)) (by (with_reducible repeat (first|refine bN_ ?_ _|refine bD_ ?_|refine bA_ ?_ _));exact BK301.out) hb)
           have n2_:=A0_.mk (blk_below (g:=gb302) (o:=.cells #[.int .i64 a1_0,.int .i64 a1_1] 30 (0,0)) (by (with_reducible repeat (first|refine bN_ ?_ _|refine bD_ ?_|refine bA_ ?_ _));exact BK302.out) hb)
           have n3_:=A0_.mk (below_step (by repeat (first|(with_reducible first|exact HB.out|apply eA_|apply eN_|apply eD_|refine eS_ ?_ GE301.out|refine eS_ ?_ GE302.out)|exact HB.out)) hb)
           have n4_:=A0_.mk (hbox)
           have n5_:=A0_.mk ((by rw [hg];exact (below_size (by repeat (first|(with_reducible first|exact HB.out|apply eA_|apply eN_|apply eD_|refine eS_ ?_ GE301.out|refine eS_ ?_ GE302.out)|exact HB.out))) : w.heap.size ≤ gb317))
           have n6_:=A0_.mk ((by rw [hg];exact (below_size (by repeat (first|(with_reducible first|exact HB.out|apply eA_|apply eN_|apply eD_|refine eS_ ?_ GE301.out|refine eS_ ?_ GE302.out)|exact HB.out))) : w.heap.size ≤ gb317))
           have n7_:=A0_.mk ((by rw [hg];exact Nat.ne_of_lt (blk_lt (g:=gb301) (o:=.cells #[.int .i64 a0_0,.slice A0_1 l0_1.length c0_1,.slice A0_2 l0_2.length c0_2,.slice A0_3 l0_3.length c0_3,.int .i64 a0_4] 28 (0,0)) (by (with_reducible repeat (first|refine bN_ ?_ _|refine bD_ ?_|refine bA_ ?_ _));exact BK301.out)) : gb301 ≠ gb317))
           have n8_:=A0_.mk ((by rw [hg];exact Nat.ne_of_gt (blk_lt (g:=gb301) (o:=.cells #[.int .i64 a0_0,.slice A0_1 l0_1.length c0_1,.slice A0_2 l0_2.length c0_2,.slice A0_3 l0_3.length c0_3,.int .i64 a0_4] 28 (0,0)) (by (with_reducible repeat (first|refine bN_ ?_ _|refine bD_ ?_|refine bA_ ?_ _));exact BK301.out)) : gb317 ≠ gb301))
           have n9_:=A0_.mk ((by rw [hg];exact Nat.ne_of_lt (blk_lt (g:=gb302) (o:=.cells #[.int .i64 a1_0,.int .i64 a1_1] 30 (0,0)) (by (with_reducible repeat (first|refine bN_ ?_ _|refine bD_ ?_|refine bA_ ?_ _));exact BK302.out)) : gb302 ≠ gb317))
           have n10_:=A0_.mk ((by rw [hg];exact Nat.ne_of_gt (blk_lt (g:=gb302) (o:=.cells #[.int .i64 a1_0,.int .i64 a1_1] 30 (0,0)) (by (with_reducible repeat (first|refine bN_ ?_ _|refine bD_ ?_|refine bA_ ?_ _));exact BK302.out)) : gb317 ≠ gb302))
           clear HO309
           clear BK301
           clear BK302
           clear HB
           have HO309:=n0_
           have BK301:=n1_
           have BK302:=n2_
           have HB:=n3_
           have BK317:=n4_
           have GW317:=n5_
           have GE317:=n6_
           have NB301_317:=n7_
           have NB317_301:=n8_
           have NB302_317:=n9_
           have NB317_302:=n10_
           clear n0_ n1_ n2_ n3_ n4_ n5_ n6_ n7_ n8_ n9_ n10_
           clear hb hbox hg
           refine hK.out _ _ ⟨(bC_ BK301.out 0).trans rfl,(bC_ BK301.out 1).trans rfl,(bC_ BK301.out 2).trans rfl,(bC_ BK301.out 3).trans rfl,(bC_ BK301.out 4).trans rfl⟩ (fun hHeld => ?_)
           clear hK K
           refine norm_ (a':=?_) ?_ ?_
           rotate_left
           ·show Act.put _ (some 5) _ = _
            simp only [Act.put,List.setIfInBounds_toArray,List.set_cons_zero,List.set_cons_succ,i64_w,i32_w]
            rfl
           refine one_ (i:=8) (N:=some 20) #[true,true,true,true,true,true,true,true,true,false,true,false] rfl rfl (one_of HT_.out (by kernel_rfl)) (by decide) (fun K hK => ?_)
           refine goes_ Tryd.func12 (by kernel_rfl) rfl #[.agg #[.slice A0_2 l0_2.length c0_2,.slice A0_3 l0_3.length c0_3,.int .i64 a0_4]] (by rfl) rfl rfl (by (try simp only [List.map_toArray,List.map_cons,List.map_nil]);first|done|rfl|(simp only [List.length_drop,List.length_take];rfl)) ?_
           with_reducible refine (book_CT.calls k _ _ l0_2 _ _ l0_3 a0_4 t310 t313 t316 _ ?side1 ?side2 ?side3 ?side4 A6.out).mono ?_
           (case side1 => repeat (first|exact (Kd.C_below HR0_2.out HB.out)|(with_reducible refine Kd.C_alloc ?_ _)|(with_reducible refine Kd.C_drewN ?_ _)|(with_reducible refine Kd.C_drew ?_)))
           (case side2 => exact HC0_2.out)
           (case side3 => repeat (first|exact (Kd.C_below HR0_3.out HB.out)|(with_reducible refine Kd.C_alloc ?_ _)|(with_reducible refine Kd.C_drewN ?_ _)|(with_reducible refine Kd.C_drew ?_)))
           (case side4 => exact HC0_3.out)
           rintro e w24 ⟨v311,v314,rfl,ho0,ho1,hb⟩
           refine ⟨_,rfl,?_⟩
           have n0_:=A0_.mk (Kd.R_below (by (with_reducible repeat (first|apply Kd.R_alloc|apply Kd.R_drewN|apply Kd.R_drew));exact HO309.out) hb)
           have n1_:=A0_.mk (Kd.R_lower ho0 (below_size (by repeat (first|(with_reducible first|exact HB.out|apply eA_|apply eN_|apply eD_|refine eS_ ?_ GE301.out|refine eS_ ?_ GE302.out|refine eS_ ?_ GE317.out)|exact HB.out))))
           have n2_:=A0_.mk (Kd.S_lower ho1 (below_size (by repeat (first|(with_reducible first|exact HB.out|apply eA_|apply eN_|apply eD_|refine eS_ ?_ GE301.out|refine eS_ ?_ GE302.out|refine eS_ ?_ GE317.out)|exact HB.out))))
           have n3_:=A0_.mk (blk_below (g:=gb301) (o:=.cells #[.int .i64 a0_0,.slice A0_1 l0_1.length c0_1,.slice A0_2 l0_2.length c0_2,.slice A0_3 l0_3.length c0_3,.int .i64 a0_4] 28 (0,0)) (by (with_reducible repeat (first|refine bN_ ?_ _|refine bD_ ?_|refine bA_ ?_ _));exact BK301.out) hb)
           have n4_:=A0_.mk (blk_below (g:=gb302) (o:=.cells #[.int .i64 a1_0,.int .i64 a1_1] 30 (0,0)) (by (with_reducible repeat (first|refine bN_ ?_ _|refine bD_ ?_|refine bA_ ?_ _));exact BK302.out) hb)
           have n5_:=A0_.mk (blk_below (g:=gb317) (o:=.cells #[.int .i64 0,.slice none 0 0,.slice none 0 0,.slice none 0 0,.int .i64 0] 28 (0,0)) (by (with_reducible repeat (first|refine bN_ ?_ _|refine bD_ ?_|refine bA_ ?_ _));exact BK317.out) hb)
           have n6_:=A0_.mk (below_step (by repeat (first|(with_reducible first|exact HB.out|apply eA_|apply eN_|apply eD_|refine eS_ ?_ GE301.out|refine eS_ ?_ GE302.out|refine eS_ ?_ GE317.out)|exact HB.out)) hb)
           clear HO309
           clear BK301
           clear BK302
           clear BK317
           clear HB
           have HO309:=n0_
           have HO312:=n1_
           have HO315:=n2_
           have BK301:=n3_
           have BK302:=n4_
           have BK317:=n5_
           have HB:=n6_
           clear n0_ n1_ n2_ n3_ n4_ n5_ n6_
           (try clear hb)
           (try clear hb2)
           (try clear hk)
           (try clear hi)
           (try clear ho0)
           (try clear ho1)
           obtain ⟨Ao25,co25,eo25⟩:=Kd.S_slice HO315.out
           (first|subst eo25|(injection eo25 with f1_ f2_ f3_;have f4_:=f1_.symm;have f5_:=f3_.symm;clear f1_ f2_ f3_;subst f4_;subst f5_))
           obtain ⟨Ao26,co26,eo26⟩:=Kd.R_slice HO312.out
           (first|subst eo26|(injection eo26 with f1_ f2_ f3_;have f4_:=f1_.symm;have f5_:=f3_.symm;clear f1_ f2_ f3_;subst f4_;subst f5_))
           obtain ⟨Ao27,co27,eo27⟩:=Kd.R_slice HO309.out
           (first|subst eo27|(injection eo27 with f1_ f2_ f3_;have f4_:=f1_.symm;have f5_:=f3_.symm;clear f1_ f2_ f3_;subst f4_;subst f5_))
           refine hK.out _ _ ⟨(bC_ BK301.out 0).trans rfl,(bC_ BK301.out 1).trans rfl,(bC_ BK301.out 2).trans rfl,(bC_ BK301.out 3).trans rfl,(bC_ BK301.out 4).trans rfl⟩ (fun hHeld => ?_)
           clear hK K
           refine norm_ (a':=?_) ?_ ?_
           rotate_left
           ·show Act.put _ (some 20) _ = _
            simp only [Act.put,List.setIfInBounds_toArray,List.set_cons_zero,List.set_cons_succ,i64_w,i32_w]
            rfl
           refine pure_ (i:=9) (N:=some 21) (v:=?_) (a':=?_) #[true,true,true,true,true,true,true,true,true,true,true,false] rfl rfl (any_of HT_.out (by kernel_rfl)) (fun _ _ _ h => h) (Or.inl ⟨by rfl,?_⟩) ?_ ?_
           rotate_left
           ·intro w'
            go_simp
            with_reducible rfl
           rotate_left
           ·simp only [Act.put,List.setIfInBounds_toArray,List.set_cons_zero,List.set_cons_succ,i64_w,i32_w]
            rfl
           exact norm_ (by simp only [putAll,Act.put,List.setIfInBounds_toArray,List.set_cons_zero,List.set_cons_succ]) (hCont (v305,.slice Ao27 y307.length co27,.slice Ao26 t310.length co26,.slice Ao25 t313.length co25,gb317) _ ⟨hHeld,(by (with_reducible repeat (first|apply Kd.R_alloc|apply Kd.R_drewN|apply Kd.R_drew));exact HO309.out),(by (with_reducible repeat (first|apply Kd.R_alloc|apply Kd.R_drewN|apply Kd.R_drew));exact HO312.out),(by (with_reducible repeat (first|apply Kd.S_alloc|apply Kd.S_drewN|apply Kd.S_drew));exact HO315.out),(by (with_reducible repeat (first|refine bN_ ?_ _|refine bD_ ?_|refine bA_ ?_ _));exact BK301.out),(by (with_reducible repeat (first|refine bN_ ?_ _|refine bD_ ?_|refine bA_ ?_ _));exact BK302.out),(by (with_reducible repeat (first|refine bN_ ?_ _|refine bD_ ?_|refine bA_ ?_ _));exact BK317.out),GW317.out,GE317.out,NB301_317.out,NB317_301.out,NB302_317.out,NB317_302.out,(by repeat (first|(with_reducible first|exact HB.out|apply eA_|apply eN_|apply eD_|refine eS_ ?_ GE301.out|refine eS_ ?_ GE302.out|refine eS_ ?_ GE317.out)|exact HB.out))⟩)
         ·skip
          refine box_step ?hg (N:=5) ?hd (cs:=#[.int .i64 0,.slice none 0 0,.slice none 0 0,.slice none 0 0,.int .i64 0]) (t:=28) ?hr ?_;(case hd => rfl);(case hg => rfl);(case hr => first|(go_simp;done)|(go_simp;rfl))
          intro gb317 hg w22 hbox hb
          have n0_:=A0_.mk (Kd.R_below (by (with_reducible repeat (first|apply Kd.R_alloc|apply Kd.R_drewN|apply Kd.R_drew));exact HO306.out) hb)
          have n1_:=A0_.mk (blk_below (g:=gb301) (o:=.cells #[.int .i64 a0_0,.slice A0_1 l0_1.length c0_1,.slice A0_2 l0_2.length c0_2,.slice A0_3 l0_3.length c0_3,.int .i64 a0_4] 28 (0,0)) (by (with_reducible repeat (first|refine bN_ ?_ _|refine bD_ ?_|refine bA_ ?_ _));exact BK301.out) hb)
          have n2_:=A0_.mk (blk_below (g:=gb302) (o:=.cells #[.int .i64 a1_0,.int .i64 a1_1] 30 (0,0)) (by (with_reducible repeat (first|refine bN_ ?_ _|refine bD_ ?_|refine bA_ ?_ _));exact BK302.out) hb)
          have n3_:=A0_.mk (below_step (by repeat (first|(with_reducible first|exact HB.out|apply eA_|apply eN_|apply eD_|refine eS_ ?_ GE301.out|refine eS_ ?_ GE302.out)|exact HB.out)) hb)
          have n4_:=A0_.mk (hbox)
          have n5_:=A0_.mk ((by rw [hg];exact (below_size (by repeat (first|(with_reducible first|exact HB.out|apply eA_|apply eN_|apply eD_|refine eS_ ?_ GE301.out|refine eS_ ?_ GE302.out)|exact HB.out))) : w.heap.size ≤ gb317))
          have n6_:=A0_.mk ((by rw [hg];exact (below_size (by repeat (first|(with_reducible first|exact HB.out|apply eA_|apply eN_|apply eD_|refine eS_ ?_ GE301.out|refine eS_ ?_ GE302.out)|exact HB.out))) : w.heap.size ≤ gb317))
          have n7_:=A0_.mk ((by rw [hg];exact Nat.ne_of_lt (blk_lt (g:=gb301) (o:=.cells #[.int .i64 a0_0,.slice A0_1 l0_1.length c0_1,.slice A0_2 l0_2.length c0_2,.slice A0_3 l0_3.length c0_3,.int .i64 a0_4] 28 (0,0)) (by (with_reducible repeat (first|refine bN_ ?_ _|refine bD_ ?_|refine bA_ ?_ _));exact BK301.out)) : gb301 ≠ gb317))
          have n8_:=A0_.mk ((by rw [hg];exact Nat.ne_of_gt (blk_lt (g:=gb301) (o:=.cells #[.int .i64 a0_0,.slice A0_1 l0_1.length c0_1,.slice A0_2 l0_2.length c0_2,.slice A0_3 l0_3.length c0_3,.int .i64 a0_4] 28 (0,0)) (by (with_reducible repeat (first|refine bN_ ?_ _|refine bD_ ?_|refine bA_ ?_ _));exact BK301.out)) : gb317 ≠ gb301))
          have n9_:=A0_.mk ((by rw [hg];exact Nat.ne_of_lt (blk_lt (g:=gb302) (o:=.cells #[.int .i64 a1_0,.int .i64 a1_1] 30 (0,0)) (by (with_reducible repeat (first|refine bN_ ?_ _|refine bD_ ?_|refine bA_ ?_ _));exact BK302.out)) : gb302 ≠ gb317))
          have n10_:=A0_.mk ((by rw [hg];exact Nat.ne_of_gt (blk_lt (g:=gb302) (o:=.cells #[.int .i64 a1_0,.int .i64 a1_1] 30 (0,0)) (by (with_reducible repeat (first|refine bN_ ?_ _|refine bD_ ?_|refine bA_ ?_ _));exact BK302.out)) : gb317 ≠ gb302))
          clear HO306
          clear BK301
          clear BK302
          clear HB
          have HO306:=n0_
          have BK301:=n1_
          have BK302:=n2_
          have HB:=n3_
          have BK317:=n4_
          have GW317:=n5_
          have GE317:=n6_
          have NB301_317:=n7_
          have NB317_301:=n8_
          have NB302_317:=n9_
          have NB317_302:=n10_
          clear n0_ n1_ n2_ n3_ n4_ n5_ n6_ n7_ n8_ n9_ n10_
          clear hb hbox hg
          refine hK.out _ _ ⟨(bC_ BK301.out 0).trans rfl,(bC_ BK301.out 1).trans rfl,(bC_ BK301.out 2).trans rfl,(bC_ BK301.out 3).trans rfl,(bC_ BK301.out 4).trans rfl⟩ (fun hHeld => ?_)
          clear hK K
          refine norm_ (a':=?_) ?_ ?_
          rotate_left
          ·show Act.put _ (some 5) _ = _
           simp only [Act.put,List.setIfInBounds_toArray,List.set_cons_zero,List.set_cons_succ,i64_w,i32_w]
           rfl
          refine one_ (i:=5) (N:=some 17) #[true,true,true,true,true,true,true,true,false,false,true,false] rfl rfl (one_of HT_.out (by kernel_rfl)) (by decide) (fun K hK => ?_)
          refine Kd.R_append_rows_step k83 (w0:=w) w.heap.size (by rfl) (.tmp 14) (.tmp 16) 22 83 (.agg #[(.int .u8 0),(.int .i64 0)]) 16 rfl Tryd.underlying22 info83 rfl (by decide) (by omega) v305 y304 l0_1 _ _ _ (fun _ => True) (fun _ => False) rfl rfl ?aO ?aR (fun _ _ h => h) (fun _ h => h.elim) ?aF ?aB ?aS ?aL ?_
          (case aR => repeat (first|exact (Kd.C_below HR0_1.out HB.out)|(with_reducible refine Kd.C_alloc ?_ _)|(with_reducible refine Kd.C_drewN ?_ _)|(with_reducible refine Kd.C_drew ?_)))
          (case aB => exact (by repeat (first|(with_reducible first|exact HB.out|apply eA_|apply eN_|apply eD_|refine eS_ ?_ GE301.out|refine eS_ ?_ GE302.out|refine eS_ ?_ GE317.out)|exact HB.out)))
          (case aF => exact (fun _ _ => trivial))
          (case aO => exact (by (with_reducible repeat (first|apply Kd.R_alloc|apply Kd.R_drewN|apply Kd.R_drew));exact HO306.out))
          (case aS => exact (below_size (by repeat (first|(with_reducible first|exact HB.out|apply eA_|apply eN_|apply eD_|refine eS_ ?_ GE301.out|refine eS_ ?_ GE302.out|refine eS_ ?_ GE317.out)|exact HB.out))))
          (case aL => have:=LMc5.out;omega)
          intro v308 w23 ho hb hg hat
          rw [← Ny307.out] at ho
          have n0_:=A0_.mk (blk_grown (g:=gb301) (o:=.cells #[.int .i64 a0_0,.slice A0_1 l0_1.length c0_1,.slice A0_2 l0_2.length c0_2,.slice A0_3 l0_3.length c0_3,.int .i64 a0_4] 28 (0,0)) (by (with_reducible repeat (first|refine bN_ ?_ _|refine bD_ ?_|refine bA_ ?_ _));exact BK301.out) hg (Kd.R_ne HO306.out BK301.out (by decide)))
          have n1_:=A0_.mk (blk_grown (g:=gb302) (o:=.cells #[.int .i64 a1_0,.int .i64 a1_1] 30 (0,0)) (by (with_reducible repeat (first|refine bN_ ?_ _|refine bD_ ?_|refine bA_ ?_ _));exact BK302.out) hg (Kd.R_ne HO306.out BK302.out (by decide)))
          have n2_:=A0_.mk (blk_grown (g:=gb317) (o:=.cells #[.int .i64 0,.slice none 0 0,.slice none 0 0,.slice none 0 0,.int .i64 0] 28 (0,0)) (by (with_reducible repeat (first|refine bN_ ?_ _|refine bD_ ?_|refine bA_ ?_ _));exact BK317.out) hg (Kd.R_ne HO306.out BK317.out (by decide)))
          have n3_:=A0_.mk (hb)
          have n4_:=A0_.mk (ho)
          clear BK301
          clear BK302
          clear BK317
          clear HB
          clear HO306
          have BK301:=n0_
          have BK302:=n1_
          have BK317:=n2_
          have HB:=n3_
          have HO309:=n4_
          clear n0_ n1_ n2_ n3_ n4_
          clear ho hb hg hat
          refine hK.out _ _ ⟨(bC_ BK301.out 0).trans rfl,(bC_ BK301.out 1).trans rfl,(bC_ BK301.out 2).trans rfl,(bC_ BK301.out 3).trans rfl,(bC_ BK301.out 4).trans rfl⟩ (fun hHeld => ?_)
          clear hK K
          refine norm_ (a':=?_) ?_ ?_
          rotate_left
          ·show Act.put _ (some 17) _ = _
           simp only [Act.put,List.setIfInBounds_toArray,List.set_cons_zero,List.set_cons_succ,i64_w,i32_w]
           rfl
          refine one_ (i:=8) (N:=some 20) #[true,true,true,true,true,true,true,true,true,false,true,false] rfl rfl (one_of HT_.out (by kernel_rfl)) (by decide) (fun K hK => ?_)
          refine goes_ Tryd.func12 (by kernel_rfl) rfl #[.agg #[.slice A0_2 l0_2.length c0_2,.slice A0_3 l0_3.length c0_3,.int .i64 a0_4]] (by rfl) rfl rfl (by (try simp only [List.map_toArray,List.map_cons,List.map_nil]);first|done|rfl|(simp only [List.length_drop,List.length_take];rfl)) ?_
          with_reducible refine (book_CT.calls k _ _ l0_2 _ _ l0_3 a0_4 t310 t313 t316 _ ?side1 ?side2 ?side3 ?side4 A6.out).mono ?_
          (case side1 => repeat (first|exact (Kd.C_below HR0_2.out HB.out)|(with_reducible refine Kd.C_alloc ?_ _)|(with_reducible refine Kd.C_drewN ?_ _)|(with_reducible refine Kd.C_drew ?_)))
          (case side2 => exact HC0_2.out)
          (case side3 => repeat (first|exact (Kd.C_below HR0_3.out HB.out)|(with_reducible refine Kd.C_alloc ?_ _)|(with_reducible refine Kd.C_drewN ?_ _)|(with_reducible refine Kd.C_drew ?_)))
          (case side4 => exact HC0_3.out)
          rintro e w24 ⟨v311,v314,rfl,ho0,ho1,hb⟩
          refine ⟨_,rfl,?_⟩
          have n0_:=A0_.mk (Kd.R_below (by (with_reducible repeat (first|apply Kd.R_alloc|apply Kd.R_drewN|apply Kd.R_drew));exact HO309.out) hb)
          have n1_:=A0_.mk (Kd.R_lower ho0 (below_size (by repeat (first|(with_reducible first|exact HB.out|apply eA_|apply eN_|apply eD_|refine eS_ ?_ GE301.out|refine eS_ ?_ GE302.out|refine eS_ ?_ GE317.out)|exact HB.out))))
          have n2_:=A0_.mk (Kd.S_lower ho1 (below_size (by repeat (first|(with_reducible first|exact HB.out|apply eA_|apply eN_|apply eD_|refine eS_ ?_ GE301.out|refine eS_ ?_ GE302.out|refine eS_ ?_ GE317.out)|exact HB.out))))
          have n3_:=A0_.mk (blk_below (g:=gb301) (o:=.cells #[.int .i64 a0_0,.slice A0_1 l0_1.length c0_1,.slice A0_2 l0_2.length c0_2,.slice A0_3 l0_3.length c0_3,.int .i64 a0_4] 28 (0,0)) (by (with_reducible repeat (first|refine bN_ ?_ _|refine bD_ ?_|refine bA_ ?_ _));exact BK301.out) hb)
          have n4_:=A0_.mk (blk_below (g:=gb302) (o:=.cells #[.int .i64 a1_0,.int .i64 a1_1] 30 (0,0)) (by (with_reducible repeat (first|refine bN_ ?_ _|refine bD_ ?_|refine bA_ ?_ _));exact BK302.out) hb)
          have n5_:=A0_.mk (blk_below (g:=gb317) (o:=.cells #[.int .i64 0,.slice none 0 0,.slice none 0 0,.slice none 0 0,.int .i64 0] 28 (0,0)) (by (with_reducible repeat (first|refine bN_ ?_ _|refine bD_ ?_|refine bA_ ?_ _));exact BK317.out) hb)
          have n6_:=A0_.mk (below_step (by repeat (first|(with_reducible first|exact HB.out|apply eA_|apply eN_|apply eD_|refine eS_ ?_ GE301.out|refine eS_ ?_ GE302.out|refine eS_ ?_ GE317.out)|exact HB.out)) hb)
          clear HO309
          clear BK301
          clear BK302
          clear BK317
          clear HB
          have HO309:=n0_
          have HO312:=n1_
          have HO315:=n2_
          have BK301:=n3_
          have BK302:=n4_
          have BK317:=n5_
          have HB:=n6_
          clear n0_ n1_ n2_ n3_ n4_ n5_ n6_
          (try clear hb)
          (try clear hb2)
          (try clear hk)
          (try clear hi)
          (try clear ho0)
          (try clear ho1)
          obtain ⟨Ao25,co25,eo25⟩:=Kd.S_slice HO315.out
          (first|subst eo25|(injection eo25 with f1_ f2_ f3_;have f4_:=f1_.symm;have f5_:=f3_.symm;clear f1_ f2_ f3_;subst f4_;subst f5_))
          obtain ⟨Ao26,co26,eo26⟩:=Kd.R_slice HO312.out
          (first|subst eo26|(injection eo26 with f1_ f2_ f3_;have f4_:=f1_.symm;have f5_:=f3_.symm;clear f1_ f2_ f3_;subst f4_;subst f5_))
          obtain ⟨Ao27,co27,eo27⟩:=Kd.R_slice HO309.out
          (first|subst eo27|(injection eo27 with f1_ f2_ f3_;have f4_:=f1_.symm;have f5_:=f3_.symm;clear f1_ f2_ f3_;subst f4_;subst f5_))
          refine hK.out _ _ ⟨(bC_ BK301.out 0).trans rfl,(bC_ BK301.out 1).trans rfl,(bC_ BK301.out 2).trans rfl,(bC_ BK301.out 3).trans rfl,(bC_ BK301.out 4).trans rfl⟩ (fun hHeld => ?_)
          clear hK K
          refine norm_ (a':=?_) ?_ ?_
          rotate_left
          ·show Act.put _ (some 20) _ = _
           simp only [Act.put,List.setIfInBounds_toArray,List.set_cons_zero,List.set_cons_succ,i64_w,i32_w]
           rfl
          refine pure_ (i:=9) (N:=some 21) (v:=?_) (a':=?_) #[true,true,true,true,true,true,true,true,true,true,true,false] rfl rfl (any_of HT_.out (by kernel_rfl)) (fun _ _ _ h => h) (Or.inl ⟨by rfl,?_⟩) ?_ ?_
          rotate_left
          ·intro w'
           go_simp
           with_reducible rfl
          rotate_left
          ·simp only [Act.put,List.setIfInBounds_toArray,List.set_cons_zero,List.set_cons_succ,i64_w,i32_w]
           rfl
          exact norm_ (by simp only [putAll,Act.put,List.setIfInBounds_toArray,List.set_cons_zero,List.set_cons_succ]) (hCont (v305,.slice Ao27 y307.length co27,.slice Ao26 t310.length co26,.slice Ao25 t313.length co25,gb317) _ ⟨hHeld,(by (with_reducible repeat (first|apply Kd.R_alloc|apply Kd.R_drewN|apply Kd.R_drew));exact HO309.out),(by (with_reducible repeat (first|apply Kd.R_alloc|apply Kd.R_drewN|apply Kd.R_drew));exact HO312.out),(by (with_reducible repeat (first|apply Kd.S_alloc|apply Kd.S_drewN|apply Kd.S_drew));exact HO315.out),(by (with_reducible repeat (first|refine bN_ ?_ _|refine bD_ ?_|refine bA_ ?_ _));exact BK301.out),(by (with_reducible repeat (first|refine bN_ ?_ _|refine bD_ ?_|refine bA_ ?_ _));exact BK302.out),(by (with_reducible repeat (first|refine bN_ ?_ _|refine bD_ ?_|refine bA_ ?_ _));exact BK317.out),GW317.out,GE317.out,NB301_317.out,NB317_301.out,NB302_317.out,NB317_302.out,(by repeat (first|(with_reducible first|exact HB.out|apply eA_|apply eN_|apply eD_|refine eS_ ?_ GE301.out|refine eS_ ?_ GE302.out|refine eS_ ?_ GE317.out)|exact HB.out))⟩)
        ·skip
         refine box_step ?hg (N:=5) ?hd (cs:=#[.int .i64 0,.slice none 0 0,.slice none 0 0,.slice none 0 0,.int .i64 0]) (t:=28) ?hr ?_;(case hd => rfl);(case hg => rfl);(case hr => first|(go_simp;done)|(go_simp;rfl))
         intro gb317 hg w20 hbox hb
         have n0_:=A0_.mk (blk_below (g:=gb301) (o:=.cells #[.int .i64 a0_0,.slice A0_1 l0_1.length c0_1,.slice A0_2 l0_2.length c0_2,.slice A0_3 l0_3.length c0_3,.int .i64 a0_4] 28 (0,0)) (by (with_reducible repeat (first|refine bN_ ?_ _|refine bD_ ?_|refine bA_ ?_ _));exact BK301.out) hb)
         have n1_:=A0_.mk (blk_below (g:=gb302) (o:=.cells #[.int .i64 a1_0,.int .i64 a1_1] 30 (0,0)) (by (with_reducible repeat (first|refine bN_ ?_ _|refine bD_ ?_|refine bA_ ?_ _));exact BK302.out) hb)
         have n2_:=A0_.mk (below_step (by repeat (first|(with_reducible first|exact HB.out|apply eA_|apply eN_|apply eD_|refine eS_ ?_ GE301.out|refine eS_ ?_ GE302.out)|exact HB.out)) hb)
         have n3_:=A0_.mk (hbox)
         have n4_:=A0_.mk ((by rw [hg];exact (below_size (by repeat (first|(with_reducible first|exact HB.out|apply eA_|apply eN_|apply eD_|refine eS_ ?_ GE301.out|refine eS_ ?_ GE302.out)|exact HB.out))) : w.heap.size ≤ gb317))
         have n5_:=A0_.mk ((by rw [hg];exact (below_size (by repeat (first|(with_reducible first|exact HB.out|apply eA_|apply eN_|apply eD_|refine eS_ ?_ GE301.out|refine eS_ ?_ GE302.out)|exact HB.out))) : w.heap.size ≤ gb317))
         have n6_:=A0_.mk ((by rw [hg];exact Nat.ne_of_lt (blk_lt (g:=gb301) (o:=.cells #[.int .i64 a0_0,.slice A0_1 l0_1.length c0_1,.slice A0_2 l0_2.length c0_2,.slice A0_3 l0_3.length c0_3,.int .i64 a0_4] 28 (0,0)) (by (with_reducible repeat (first|refine bN_ ?_ _|refine bD_ ?_|refine bA_ ?_ _));exact BK301.out)) : gb301 ≠ gb317))
         have n7_:=A0_.mk ((by rw [hg];exact Nat.ne_of_gt (blk_lt (g:=gb301) (o:=.cells #[.int .i64 a0_0,.slice A0_1 l0_1.length c0_1,.slice A0_2 l0_2.length c0_2,.slice A0_3 l0_3.length c0_3,.int .i64 a0_4] 28 (0,0)) (by (with_reducible repeat (first|refine bN_ ?_ _|refine bD_ ?_|refine bA_ ?_ _));exact BK301.out)) : gb317 ≠ gb301))
         have n8_:=A0_.mk ((by rw [hg];exact Nat.ne_of_lt (blk_lt (g:=gb302) (o:=.cells #[.int .i64 a1_0,.int .i64 a1_1] 30 (0,0)) (by (with_reducible repeat (first|refine bN_ ?_ _|refine bD_ ?_|refine bA_ ?_ _));exact BK302.out)) : gb302 ≠ gb317))
         have n9_:=A0_.mk ((by rw [hg];exact Nat.ne_of_gt (blk_lt (g:=gb302) (o:=.cells #[.int .i64 a1_0,.int .i64 a1_1] 30 (0,0)) (by (with_reducible repeat (first|refine bN_ ?_ _|refine bD_ ?_|refine bA_ ?_ _));exact BK302.out)) : gb317 ≠ gb302))
         clear BK301
         clear BK302
         clear HB
         have BK301:=n0_
         have BK302:=n1_
         have HB:=n2_
         have BK317:=n3_
         have GW317:=n4_
         have GE317:=n5_
         have NB301_317:=n6_
         have NB317_301:=n7_
         have NB302_317:=n8_
         have NB317_302:=n9_
         clear n0_ n1_ n2_ n3_ n4_ n5_ n6_ n7_ n8_ n9_
         clear hb hbox hg
         refine hK.out _ _ ⟨(bC_ BK301.out 0).trans rfl,(bC_ BK301.out 1).trans rfl,(bC_ BK301.out 2).trans rfl,(bC_ BK301.out 3).trans rfl,(bC_ BK301.out 4).trans rfl⟩ (fun hHeld => ?_)
         clear hK K
         refine norm_ (a':=?_) ?_ ?_
         rotate_left
         ·show Act.put _ (some 5) _ = _
          simp only [Act.put,List.setIfInBounds_toArray,List.set_cons_zero,List.set_cons_succ,i64_w,i32_w]
          rfl
         refine one_ (i:=2) (N:=some 14) #[true,true,true,true,true,false,true,true,false,false,true,false] rfl rfl (one_of HT_.out (by kernel_rfl)) (by decide) (fun K hK => ?_)
         refine Kd.R_lit_step k83 _ 83 ?hg (N:=14) ?hd (xs:=([] : List (S83))) (inner:=[]) (ok:=fun _ => True) (okp:=fun _ => True) ?hr ?hp (fun _ hk => hk) trivial (Below.refl _ _) (Nat.le_refl _) (by simp) ?_;(case hd => rfl);(case hg => rfl);(case hr => first|(go_simp;done)|(go_simp;rfl));(case hp => exact (Reps.none _ _))
         intro v305 w21 ho22 hb hg_ hnew_
         clear hg_ hnew_
         (first|rw [← Ny304.out] at ho22|(simp only [Int.reduceToNat] at ho22;rw [← Ny304.out] at ho22))
         have n0_:=A0_.mk (Kd.R_lower ho22 (below_size (by repeat (first|(with_reducible first|exact HB.out|apply eA_|apply eN_|apply eD_|refine eS_ ?_ GE301.out|refine eS_ ?_ GE302.out|refine eS_ ?_ GE317.out)|exact HB.out))))
         have n1_:=A0_.mk (blk_below (g:=gb301) (o:=.cells #[.int .i64 a0_0,.slice A0_1 l0_1.length c0_1,.slice A0_2 l0_2.length c0_2,.slice A0_3 l0_3.length c0_3,.int .i64 a0_4] 28 (0,0)) (by (with_reducible repeat (first|refine bN_ ?_ _|refine bD_ ?_|refine bA_ ?_ _));exact BK301.out) hb)
         have n2_:=A0_.mk (blk_below (g:=gb302) (o:=.cells #[.int .i64 a1_0,.int .i64 a1_1] 30 (0,0)) (by (with_reducible repeat (first|refine bN_ ?_ _|refine bD_ ?_|refine bA_ ?_ _));exact BK302.out) hb)
         have n3_:=A0_.mk (blk_below (g:=gb317) (o:=.cells #[.int .i64 0,.slice none 0 0,.slice none 0 0,.slice none 0 0,.int .i64 0] 28 (0,0)) (by (with_reducible repeat (first|refine bN_ ?_ _|refine bD_ ?_|refine bA_ ?_ _));exact BK317.out) hb)
         have n4_:=A0_.mk (below_step (by repeat (first|(with_reducible first|exact HB.out|apply eA_|apply eN_|apply eD_|refine eS_ ?_ GE301.out|refine eS_ ?_ GE302.out|refine eS_ ?_ GE317.out)|exact HB.out)) hb)
         clear BK301
         clear BK302
         clear BK317
         clear HB
         have HO306:=n0_
         have BK301:=n1_
         have BK302:=n2_
         have BK317:=n3_
         have HB:=n4_
         clear n0_ n1_ n2_ n3_ n4_
         clear hb ho22
         refine hK.out _ _ ⟨(bC_ BK301.out 0).trans rfl,(bC_ BK301.out 1).trans rfl,(bC_ BK301.out 2).trans rfl,(bC_ BK301.out 3).trans rfl,(bC_ BK301.out 4).trans rfl⟩ (fun hHeld => ?_)
         clear hK K
         refine norm_ (a':=?_) ?_ ?_
         rotate_left
         ·show Act.put _ (some 14) _ = _
          simp only [Act.put,List.setIfInBounds_toArray,List.set_cons_zero,List.set_cons_succ,i64_w,i32_w]
          rfl
         refine one_ (i:=5) (N:=some 17) #[true,true,true,true,true,true,true,true,false,false,true,false] rfl rfl (one_of HT_.out (by kernel_rfl)) (by decide) (fun K hK => ?_)
         refine Kd.R_append_rows_step k83 (w0:=w) w.heap.size (by rfl) (.tmp 14) (.tmp 16) 22 83 (.agg #[(.int .u8 0),(.int .i64 0)]) 16 rfl Tryd.underlying22 info83 rfl (by decide) (by omega) v305 y304 l0_1 _ _ _ (fun _ => True) (fun _ => False) rfl rfl ?aO ?aR (fun _ _ h => h) (fun _ h => h.elim) ?aF ?aB ?aS ?aL ?_
         (case aR => repeat (first|exact (Kd.C_below HR0_1.out HB.out)|(with_reducible refine Kd.C_alloc ?_ _)|(with_reducible refine Kd.C_drewN ?_ _)|(with_reducible refine Kd.C_drew ?_)))
         (case aB => exact (by repeat (first|(with_reducible first|exact HB.out|apply eA_|apply eN_|apply eD_|refine eS_ ?_ GE301.out|refine eS_ ?_ GE302.out|refine eS_ ?_ GE317.out)|exact HB.out)))
         (case aF => exact (fun _ _ => trivial))
         (case aO => exact (by (with_reducible repeat (first|apply Kd.R_alloc|apply Kd.R_drewN|apply Kd.R_drew));exact HO306.out))
         (case aS => exact (below_size (by repeat (first|(with_reducible first|exact HB.out|apply eA_|apply eN_|apply eD_|refine eS_ ?_ GE301.out|refine eS_ ?_ GE302.out|refine eS_ ?_ GE317.out)|exact HB.out))))
         (case aL => have:=LMc5.out;omega)
         intro v308 w23 ho hb hg hat
         rw [← Ny307.out] at ho
         have n0_:=A0_.mk (blk_grown (g:=gb301) (o:=.cells #[.int .i64 a0_0,.slice A0_1 l0_1.length c0_1,.slice A0_2 l0_2.length c0_2,.slice A0_3 l0_3.length c0_3,.int .i64 a0_4] 28 (0,0)) (by (with_reducible repeat (first|refine bN_ ?_ _|refine bD_ ?_|refine bA_ ?_ _));exact BK301.out) hg (Kd.R_ne HO306.out BK301.out (by decide)))
         have n1_:=A0_.mk (blk_grown (g:=gb302) (o:=.cells #[.int .i64 a1_0,.int .i64 a1_1] 30 (0,0)) (by (with_reducible repeat (first|refine bN_ ?_ _|refine bD_ ?_|refine bA_ ?_ _));exact BK302.out) hg (Kd.R_ne HO306.out BK302.out (by decide)))
         have n2_:=A0_.mk (blk_grown (g:=gb317) (o:=.cells #[.int .i64 0,.slice none 0 0,.slice none 0 0,.slice none 0 0,.int .i64 0] 28 (0,0)) (by (with_reducible repeat (first|refine bN_ ?_ _|refine bD_ ?_|refine bA_ ?_ _));exact BK317.out) hg (Kd.R_ne HO306.out BK317.out (by decide)))
         have n3_:=A0_.mk (hb)
         have n4_:=A0_.mk (ho)
         clear BK301
         clear BK302
         clear BK317
         clear HB
         clear HO306
         have BK301:=n0_
         have BK302:=n1_
         have BK317:=n2_
         have HB:=n3_
         have HO309:=n4_
         clear n0_ n1_ n2_ n3_ n4_
         clear ho hb hg hat
         refine hK.out _ _ ⟨(bC_ BK301.out 0).trans rfl,(bC_ BK301.out 1).trans rfl,(bC_ BK301.out 2).trans rfl,(bC_ BK301.out 3).trans rfl,(bC_ BK301.out 4).trans rfl⟩ (fun hHeld => ?_)
         clear hK K
         refine norm_ (a':=?_) ?_ ?_
         rotate_left
         ·show Act.put _ (some 17) _ = _
          simp only [Act.put,List.setIfInBounds_toArray,List.set_cons_zero,List.set_cons_succ,i64_w,i32_w]
          rfl
         refine one_ (i:=8) (N:=some 20) #[true,true,true,true,true,true,true,true,true,false,true,false] rfl rfl (one_of HT_.out (by kernel_rfl)) (by decide) (fun K hK => ?_)
         refine goes_ Tryd.func12 (by kernel_rfl) rfl #[.agg #[.slice A0_2 l0_2.length c0_2,.slice A0_3 l0_3.length c0_3,.int .i64 a0_4]] (by rfl) rfl rfl (by (try simp only [List.map_toArray,List.map_cons,List.map_nil]);first|done|rfl|(simp only [List.length_drop,List.length_take];rfl)) ?_
         with_reducible refine (book_CT.calls k _ _ l0_2 _ _ l0_3 a0_4 t310 t313 t316 _ ?side1 ?side2 ?side3 ?side4 A6.out).mono ?_
         (case side1 => repeat (first|exact (Kd.C_below HR0_2.out HB.out)|(with_reducible refine Kd.C_alloc ?_ _)|(with_reducible refine Kd.C_drewN ?_ _)|(with_reducible refine Kd.C_drew ?_)))
         (case side2 => exact HC0_2.out)
         (case side3 => repeat (first|exact (Kd.C_below HR0_3.out HB.out)|(with_reducible refine Kd.C_alloc ?_ _)|(with_reducible refine Kd.C_drewN ?_ _)|(with_reducible refine Kd.C_drew ?_)))
         (case side4 => exact HC0_3.out)
         rintro e w24 ⟨v311,v314,rfl,ho0,ho1,hb⟩
         refine ⟨_,rfl,?_⟩
         have n0_:=A0_.mk (Kd.R_below (by (with_reducible repeat (first|apply Kd.R_alloc|apply Kd.R_drewN|apply Kd.R_drew));exact HO309.out) hb)
         have n1_:=A0_.mk (Kd.R_lower ho0 (below_size (by repeat (first|(with_reducible first|exact HB.out|apply eA_|apply eN_|apply eD_|refine eS_ ?_ GE301.out|refine eS_ ?_ GE302.out|refine eS_ ?_ GE317.out)|exact HB.out))))
         have n2_:=A0_.mk (Kd.S_lower ho1 (below_size (by repeat (first|(with_reducible first|exact HB.out|apply eA_|apply eN_|apply eD_|refine eS_ ?_ GE301.out|refine eS_ ?_ GE302.out|refine eS_ ?_ GE317.out)|exact HB.out))))
         have n3_:=A0_.mk (blk_below (g:=gb301) (o:=.cells #[.int .i64 a0_0,.slice A0_1 l0_1.length c0_1,.slice A0_2 l0_2.length c0_2,.slice A0_3 l0_3.length c0_3,.int .i64 a0_4] 28 (0,0)) (by (with_reducible repeat (first|refine bN_ ?_ _|refine bD_ ?_|refine bA_ ?_ _));exact BK301.out) hb)
         have n4_:=A0_.mk (blk_below (g:=gb302) (o:=.cells #[.int .i64 a1_0,.int .i64 a1_1] 30 (0,0)) (by (with_reducible repeat (first|refine bN_ ?_ _|refine bD_ ?_|refine bA_ ?_ _));exact BK302.out) hb)
         have n5_:=A0_.mk (blk_below (g:=gb317) (o:=.cells #[.int .i64 0,.slice none 0 0,.slice none 0 0,.slice none 0 0,.int .i64 0] 28 (0,0)) (by (with_reducible repeat (first|refine bN_ ?_ _|refine bD_ ?_|refine bA_ ?_ _));exact BK317.out) hb)
         have n6_:=A0_.mk (below_step (by repeat (first|(with_reducible first|exact HB.out|apply eA_|apply eN_|apply eD_|refine eS_ ?_ GE301.out|refine eS_ ?_ GE302.out|refine eS_ ?_ GE317.out)|exact HB.out)) hb)
         clear HO309
         clear BK301
         clear BK302
         clear BK317
         clear HB
         have HO309:=n0_
         have HO312:=n1_
         have HO315:=n2_
         have BK301:=n3_
         have BK302:=n4_
         have BK317:=n5_
         have HB:=n6_
         clear n0_ n1_ n2_ n3_ n4_ n5_ n6_
         (try clear hb)
         (try clear hb2)
         (try clear hk)
         (try clear hi)
         (try clear ho0)
         (try clear ho1)
         obtain ⟨Ao25,co25,eo25⟩:=Kd.S_slice HO315.out
         (first|subst eo25|(injection eo25 with f1_ f2_ f3_;have f4_:=f1_.symm;have f5_:=f3_.symm;clear f1_ f2_ f3_;subst f4_;subst f5_))
         obtain ⟨Ao26,co26,eo26⟩:=Kd.R_slice HO312.out
         (first|subst eo26|(injection eo26 with f1_ f2_ f3_;have f4_:=f1_.symm;have f5_:=f3_.symm;clear f1_ f2_ f3_;subst f4_;subst f5_))
         obtain ⟨Ao27,co27,eo27⟩:=Kd.R_slice HO309.out
         (first|subst eo27|(injection eo27 with f1_ f2_ f3_;have f4_:=f1_.symm;have f5_:=f3_.symm;clear f1_ f2_ f3_;subst f4_;subst f5_))
         refine hK.out _ _ ⟨(bC_ BK301.out 0).trans rfl,(bC_ BK301.out 1).trans rfl,(bC_ BK301.out 2).trans rfl,(bC_ BK301.out 3).trans rfl,(bC_ BK301.out 4).trans rfl⟩ (fun hHeld => ?_)
         clear hK K
         refine norm_ (a':=?_) ?_ ?_
         rotate_left
         ·show Act.put _ (some 20) _ = _
          simp only [Act.put,List.setIfInBounds_toArray,List.set_cons_zero,List.set_cons_succ,i64_w,i32_w]
          rfl
         refine pure_ (i:=9) (N:=some 21) (v:=?_) (a':=?_) #[true,true,true,true,true,true,true,true,true,true,true,false] rfl rfl (any_of HT_.out (by kernel_rfl)) (fun _ _ _ h => h) (Or.inl ⟨by rfl,?_⟩) ?_ ?_
         rotate_left
         ·intro w'
          go_simp
          with_reducible rfl
         rotate_left
         ·simp only [Act.put,List.setIfInBounds_toArray,List.set_cons_zero,List.set_cons_succ,i64_w,i32_w]
          rfl
         exact norm_ (by simp only [putAll,Act.put,List.setIfInBounds_toArray,List.set_cons_zero,List.set_cons_succ]) (hCont (v305,.slice Ao27 y307.length co27,.slice Ao26 t310.length co26,.slice Ao25 t313.length co25,gb317) _ ⟨hHeld,(by (with_reducible repeat (first|apply Kd.R_alloc|apply Kd.R_drewN|apply Kd.R_drew));exact HO309.out),(by (with_reducible repeat (first|apply Kd.R_alloc|apply Kd.R_drewN|apply Kd.R_drew));exact HO312.out),(by (with_reducible repeat (first|apply Kd.S_alloc|apply Kd.S_drewN|apply Kd.S_drew));exact HO315.out),(by (with_reducible repeat (first|refine bN_ ?_ _|refine bD_ ?_|refine bA_ ?_ _));exact BK301.out),(by (with_reducible repeat (first|refine bN_ ?_ _|refine bD_ ?_|refine bA_ ?_ _));exact BK302.out),(by (with_reducible repeat (first|refine bN_ ?_ _|refine bD_ ?_|refine bA_ ?_ _));exact BK317.out),GW317.out,GE317.out,NB301_317.out,NB317_301.out,NB302_317.out,NB317_302.out,(by repeat (first|(with_reducible first|exact HB.out|apply eA_|apply eN_|apply eD_|refine eS_ ?_ GE301.out|refine eS_ ?_ GE302.out|refine eS_ ?_ GE317.out)|exact HB.out))⟩)
       rintro ⟨v305,v308,v311,v314,gb317⟩ w28 ⟨hS_,h0_,h1_,h2_,h3_,h4_,h5_,h6_,h7_,h8_,h9_,h10_,h11_,h12_⟩
       have n0_ : A0_ (Kd.R k83 83 w28 w.heap.size (fun _ => True) v308 y307):=⟨h0_⟩
       have n1_ : A0_ (Kd.R Kd.bool 4 w28 w.heap.size (fun _ => True) v311 t310):=⟨h1_⟩
       have n2_ : A0_ (Kd.S (Kd.slice 4 Kd.bool) 23 w28 w.heap.size (fun k_ => some k_ ≠ (v311 : Value).ownBlock) v314 t313):=⟨h2_⟩
       have n3_ : A0_ (w28.heap[gb301]? = some (.cells #[.int .i64 a0_0,.slice A0_1 l0_1.length c0_1,.slice A0_2 l0_2.length c0_2,.slice A0_3 l0_3.length c0_3,.int .i64 a0_4] 28 (0,0))):=⟨h3_⟩
       have n4_ : A0_ (w28.heap[gb302]? = some (.cells #[.int .i64 a1_0,.int .i64 a1_1] 30 (0,0))):=⟨h4_⟩
       have n5_ : A0_ (w28.heap[gb317]? = some (.cells #[.int .i64 0,.slice none 0 0,.slice none 0 0,.slice none 0 0,.int .i64 0] 28 (0,0))):=⟨h5_⟩
       have n6_ : A0_ (w.heap.size ≤ gb317):=⟨h6_⟩
       have n7_ : A0_ (w.heap.size ≤ gb317):=⟨h7_⟩
       have n8_ : A0_ (gb301 ≠ gb317):=⟨h8_⟩
       have n9_ : A0_ (gb317 ≠ gb301):=⟨h9_⟩
       have n10_ : A0_ (gb302 ≠ gb317):=⟨h10_⟩
       have n11_ : A0_ (gb317 ≠ gb302):=⟨h11_⟩
       have n12_ : A0_ (Below w.heap.size w w28):=⟨h12_⟩
       clear BK301
       clear BK302
       clear HB
       clear h0_ h1_ h2_ h3_ h4_ h5_ h6_ h7_ h8_ h9_ h10_ h11_ h12_
       have HO309:=n0_
       have HO312:=n1_
       have HO315:=n2_
       have BK301:=n3_
       have BK302:=n4_
       have BK317:=n5_
       have GW317:=n6_
       have GE317:=n7_
       have NB301_317:=n8_
       have NB317_301:=n9_
       have NB302_317:=n10_
       have NB317_302:=n11_
       have HB:=n12_
       clear n0_ n1_ n2_ n3_ n4_ n5_ n6_ n7_ n8_ n9_ n10_ n11_ n12_
       have hHeld : w28.cell? ⟨gb301,0,none⟩ = some (.int .i64 a0_0) ∧ w28.cell? ⟨gb301,1,none⟩ = some (.slice A0_1 l0_1.length c0_1) ∧ w28.cell? ⟨gb301,2,none⟩ = some (.slice A0_2 l0_2.length c0_2) ∧ w28.cell? ⟨gb301,3,none⟩ = some (.slice A0_3 l0_3.length c0_3) ∧ w28.cell? ⟨gb301,4,none⟩ = some (.int .i64 a0_4):=hS_
       obtain ⟨Ao29,co29,eo29⟩:=Kd.S_slice HO315.out
       (first|subst eo29|(injection eo29 with f1_ f2_ f3_;have f4_:=f1_.symm;have f5_:=f3_.symm;clear f1_ f2_ f3_;subst f4_;subst f5_))
       obtain ⟨Ao30,co30,eo30⟩:=Kd.R_slice HO312.out
       (first|subst eo30|(injection eo30 with f1_ f2_ f3_;have f4_:=f1_.symm;have f5_:=f3_.symm;clear f1_ f2_ f3_;subst f4_;subst f5_))
       obtain ⟨Ao31,co31,eo31⟩:=Kd.R_slice HO309.out
       (first|subst eo31|(injection eo31 with f1_ f2_ f3_;have f4_:=f1_.symm;have f5_:=f3_.symm;clear f1_ f2_ f3_;subst f4_;subst f5_))
       refine norm_ (a':=?_) ?_ ?_
       rotate_left
       ·simp only [putAll,Act.put,List.setIfInBounds_toArray,List.set_cons_zero,List.set_cons_succ]
        rfl
       refine one_ (i:=11) (N:=none) #[true,true,true,true,true,true,true,true,true,true,true,true] rfl rfl (one_of HT_.out (by kernel_rfl)) (by decide) (fun K hK => ?_)
       have hs32 : w28.cell? ⟨gb317,0,none⟩ = some (.int .i64 0):=(bC_ BK317.out 0).trans rfl
       have hfs32:=bF_ BK317.out 0
       have hns32_0:=NB301_317.out
       have hns32_1:=NB302_317.out
       have hms32_0:=NB317_301.out
       have hms32_1:=NB317_302.out
       have hs33 : w28.cell? ⟨gb317,1,none⟩ = some (.slice none 0 0):=(bC_ BK317.out 1).trans rfl
       have hfs33:=bF_ BK317.out 1
       have hns33_0:=NB301_317.out
       have hns33_1:=NB302_317.out
       have hms33_0:=NB317_301.out
       have hms33_1:=NB317_302.out
       have hs34 : w28.cell? ⟨gb317,2,none⟩ = some (.slice none 0 0):=(bC_ BK317.out 2).trans rfl
       have hfs34:=bF_ BK317.out 2
       have hns34_0:=NB301_317.out
       have hns34_1:=NB302_317.out
       have hms34_0:=NB317_301.out
       have hms34_1:=NB317_302.out
       have hs35 : w28.cell? ⟨gb317,3,none⟩ = some (.slice none 0 0):=(bC_ BK317.out 3).trans rfl
       have hfs35:=bF_ BK317.out 3
       have hns35_0:=NB301_317.out
       have hns35_1:=NB302_317.out
       have hms35_0:=NB317_301.out
       have hms35_1:=NB317_302.out
       have hs36 : w28.cell? ⟨gb317,4,none⟩ = some (.int .i64 0):=(bC_ BK317.out 4).trans rfl
       have hfs36:=bF_ BK317.out 4
       have hns36_0:=NB301_317.out
       have hns36_1:=NB302_317.out
       have hms36_0:=NB317_301.out
       have hms36_1:=NB317_302.out
       refine skip_ (w1:=?_) (by rfl) rfl ?_ ?_
       rotate_left
       ·go_simp
        rfl
       refine hK.out _ _ ⟨((cell_far (p:=⟨gb317,_,none⟩) NB301_317.out _).trans (((cell_far (p:=⟨gb317,_,none⟩) NB301_317.out _).trans (((cell_far (p:=⟨gb317,_,none⟩) NB301_317.out _).trans (((cell_far (p:=⟨gb317,_,none⟩) NB301_317.out _).trans (((cell_far (p:=⟨gb317,_,none⟩) NB301_317.out _).trans (hHeld.1)))))))))),((cell_far (p:=⟨gb317,_,none⟩) NB301_317.out _).trans (((cell_far (p:=⟨gb317,_,none⟩) NB301_317.out _).trans (((cell_far (p:=⟨gb317,_,none⟩) NB301_317.out _).trans (((cell_far (p:=⟨gb317,_,none⟩) NB301_317.out _).trans (((cell_far (p:=⟨gb317,_,none⟩) NB301_317.out _).trans (hHeld.2.1)))))))))),((cell_far (p:=⟨gb317,_,none⟩) NB301_317.out _).trans (((cell_far (p:=⟨gb317,_,none⟩) NB301_317.out _).trans (((cell_far (p:=⟨gb317,_,none⟩) NB301_317.out _).trans (((cell_far (p:=⟨gb317,_,none⟩) NB301_317.out _).trans (((cell_far (p:=⟨gb317,_,none⟩) NB301_317.out _).trans (hHeld.2.2.1)))))))))),((cell_far (p:=⟨gb317,_,none⟩) NB301_317.out _).trans (((cell_far (p:=⟨gb317,_,none⟩) NB301_317.out _).trans (((cell_far (p:=⟨gb317,_,none⟩) NB301_317.out _).trans (((cell_far (p:=⟨gb317,_,none⟩) NB301_317.out _).trans (((cell_far (p:=⟨gb317,_,none⟩) NB301_317.out _).trans (hHeld.2.2.2.1)))))))))),((cell_far (p:=⟨gb317,_,none⟩) NB301_317.out _).trans (((cell_far (p:=⟨gb317,_,none⟩) NB301_317.out _).trans (((cell_far (p:=⟨gb317,_,none⟩) NB301_317.out _).trans (((cell_far (p:=⟨gb317,_,none⟩) NB301_317.out _).trans (((cell_far (p:=⟨gb317,_,none⟩) NB301_317.out _).trans (hHeld.2.2.2.2))))))))))⟩ (fun hHeld => ?_)
       clear hK K
       refine done_ (done_of HT_.out (by kernel_rfl)) ?_
       have hnb37:=NB317_301.out
       have hnc37:=NB301_317.out
       have hnb38:=NB317_302.out
       have hnc38:=NB302_317.out
       have hcz39_0 : w28.cell? ⟨gb317,0,none⟩ = some (.int .i64 0):=(bC_ BK317.out 0).trans rfl
       have hcz39_1 : w28.cell? ⟨gb317,1,none⟩ = some (.slice none 0 0):=(bC_ BK317.out 1).trans rfl
       have hcz39_2 : w28.cell? ⟨gb317,2,none⟩ = some (.slice none 0 0):=(bC_ BK317.out 2).trans rfl
       have hcz39_3 : w28.cell? ⟨gb317,3,none⟩ = some (.slice none 0 0):=(bC_ BK317.out 3).trans rfl
       have hcz39_4 : w28.cell? ⟨gb317,4,none⟩ = some (.int .i64 0):=(bC_ BK317.out 4).trans rfl
       have hfz39_0:=bF_ BK317.out 0
       have hfz39_1:=bF_ BK317.out 1
       have hfz39_2:=bF_ BK317.out 2
       have hfz39_3:=bF_ BK317.out 3
       have hfz39_4:=bF_ BK317.out 4
       have hnb40:=NB302_301.out
       have hnc40:=NB301_302.out
       have hcz41_0 : w28.cell? ⟨gb302,0,none⟩ = some (.int .i64 a1_0):=(bC_ BK302.out 0).trans rfl
       have hcz41_1 : w28.cell? ⟨gb302,1,none⟩ = some (.int .i64 a1_1):=(bC_ BK302.out 1).trans rfl
       have hfz41_0:=bF_ BK302.out 0
       have hfz41_1:=bF_ BK302.out 1
       try go_wp2_with (first|((with_reducible refine gate_callee (f:=13) rfl ?_);refine goesL_ (some 28) rfl rfl Tryd.func13 (by kernel_rfl) rfl #[.agg #[.int .i64 a0_0,.slice Ao31 y307.length co31,.slice Ao30 t310.length co30,.slice Ao29 t313.length co29,.int .i64 t316],.int .i64 a1_0,.int .i64 a1_1] rfl (by (try simp only [List.map_toArray,List.map_cons,List.map_nil]);first|done|rfl|(simp only [List.length_drop,List.length_take];rfl)) ?_;(with_reducible refine (stim_Print.calls a0_0 _ _ y307 _ _ t310 _ _ t313 t316 a1_0 a1_1 t318 t319 _ ?side7 ?side1 ?side2 ?side3 ?side4 ?side5 ?side6 A7.out).mono ?_);(case side1 => refine (Kd.R_reads' (e:=83) (base:=w.heap.size) (ok:=fun k_ => True) (n:=y307.length) (c:=co31) ?_).2.2;exact (by (with_reducible repeat (first|apply Kd.R_alloc|apply Kd.R_drewN|apply Kd.R_drew));exact (Kd.R_mono (Kd.R_far (p:=⟨gb317,4,none⟩) (Kd.R_far (p:=⟨gb317,3,none⟩) (Kd.R_far (p:=⟨gb317,2,none⟩) (Kd.R_far (p:=⟨gb317,1,none⟩) (Kd.R_far (p:=⟨gb317,0,none⟩) (Kd.R_types HO309.out BK317.out (by decide)) (fun _ hk => hk.2) (.int .i64 a0_0)) (fun _ hk => hk.2) (.slice Ao31 y307.length co31)) (fun _ hk => hk.2) (.slice Ao30 t310.length co30)) (fun _ hk => hk.2) (.slice Ao29 t313.length co29)) (fun _ hk => hk.2) (.int .i64 t316)) (fun _ h_ => h_.1))));(case side2 => exact (Kd.R_reads' HO309.out).2.1);(case side3 => refine (Kd.R_reads' (e:=4) (base:=w.heap.size) (ok:=fun k_ => True) (n:=t310.length) (c:=co30) ?_).2.2;exact (by (with_reducible repeat (first|apply Kd.R_alloc|apply Kd.R_drewN|apply Kd.R_drew));exact (Kd.R_mono (Kd.R_far (p:=⟨gb317,4,none⟩) (Kd.R_far (p:=⟨gb317,3,none⟩) (Kd.R_far (p:=⟨gb317,2,none⟩) (Kd.R_far (p:=⟨gb317,1,none⟩) (Kd.R_far (p:=⟨gb317,0,none⟩) (Kd.R_types HO312.out BK317.out (by decide)) (fun _ hk => hk.2) (.int .i64 a0_0)) (fun _ hk => hk.2) (.slice Ao31 y307.length co31)) (fun _ hk => hk.2) (.slice Ao30 t310.length co30)) (fun _ hk => hk.2) (.slice Ao29 t313.length co29)) (fun _ hk => hk.2) (.int .i64 t316)) (fun _ h_ => h_.1))));(case side4 => exact (Kd.R_reads' HO312.out).2.1);(case side5 => refine (Kd.S_reads' (e:=23) (base:=w.heap.size) (ok:=fun k_ => some k_ ≠ (.slice Ao30 t310.length co30 : Value).ownBlock) (n:=t313.length) (c:=co29) ?_).2.2;exact (by (with_reducible repeat (first|apply Kd.S_alloc|apply Kd.S_drewN|apply Kd.S_drew));exact (Kd.S_mono (Kd.S_far (p:=⟨gb317,4,none⟩) (Kd.S_far (p:=⟨gb317,3,none⟩) (Kd.S_far (p:=⟨gb317,2,none⟩) (Kd.S_far (p:=⟨gb317,1,none⟩) (Kd.S_far (p:=⟨gb317,0,none⟩) (Kd.S_types HO315.out BK317.out (by decide)) (fun _ hk => hk.2) (.int .i64 a0_0)) (fun _ hk => hk.2) (.slice Ao31 y307.length co31)) (fun _ hk => hk.2) (.slice Ao30 t310.length co30)) (fun _ hk => hk.2) (.slice Ao29 t313.length co29)) (fun _ hk => hk.2) (.int .i64 t316)) (fun _ h_ => h_.1))));(case side6 => exact (Kd.S_reads' HO315.out).2.1);(case side7 => exact GV_below HG.out (by repeat (first|(with_reducible first|exact HB.out|apply eA_|apply eN_|apply eD_|refine eS_ ?_ GE301.out|refine eS_ ?_ GE302.out|refine eS_ ?_ GE317.out)|exact HB.out)));rintro e w42 ⟨rfl,hb⟩;refine ⟨_,rfl,?_⟩;have n0_:=A0_.mk (Kd.R_below (by (with_reducible repeat (first|apply Kd.R_alloc|apply Kd.R_drewN|apply Kd.R_drew));exact (Kd.R_mono (Kd.R_far (p:=⟨gb317,4,none⟩) (Kd.R_far (p:=⟨gb317,3,none⟩) (Kd.R_far (p:=⟨gb317,2,none⟩) (Kd.R_far (p:=⟨gb317,1,none⟩) (Kd.R_far (p:=⟨gb317,0,none⟩) (Kd.R_types HO309.out BK317.out (by decide)) (fun _ hk => hk.2) (.int .i64 a0_0)) (fun _ hk => hk.2) (.slice Ao31 y307.length co31)) (fun _ hk => hk.2) (.slice Ao30 t310.length co30)) (fun _ hk => hk.2) (.slice Ao29 t313.length co29)) (fun _ hk => hk.2) (.int .i64 t316)) (fun _ h_ => h_.1))) hb);have n1_:=A0_.mk (Kd.R_below (by (with_reducible repeat (first|apply Kd.R_alloc|apply Kd.R_drewN|apply Kd.R_drew));exact (Kd.R_mono (Kd.R_far (p:=⟨gb317,4,none⟩) (Kd.R_far (p:=⟨gb317,3,none⟩) (Kd.R_far (p:=⟨gb317,2,none⟩) (Kd.R_far (p:=⟨gb317,1,none⟩) (Kd.R_far (p:=⟨gb317,0,none⟩) (Kd.R_types HO312.out BK317.out (by decide)) (fun _ hk => hk.2) (.int .i64 a0_0)) (fun _ hk => hk.2) (.slice Ao31 y307.length co31)) (fun _ hk => hk.2) (.slice Ao30 t310.length co30)) (fun _ hk => hk.2) (.slice Ao29 t313.length co29)) (fun _ hk => hk.2) (.int .i64 t316)) (fun _ h_ => h_.1))) hb);have n2_:=A0_.mk (Kd.S_below (by (with_reducible repeat (first|apply Kd.S_alloc|apply Kd.S_drewN|apply Kd.S_drew));exact (Kd.S_mono (Kd.S_far (p:=⟨gb317,4,none⟩) (Kd.S_far (p:=⟨gb317,3,none⟩) (Kd.S_far (p:=⟨gb317,2,none⟩) (Kd.S_far (p:=⟨gb317,1,none⟩) (Kd.S_far (p:=⟨gb317,0,none⟩) (Kd.S_types HO315.out BK317.out (by decide)) (fun _ hk => hk.2) (.int .i64 a0_0)) (fun _ hk => hk.2) (.slice Ao31 y307.length co31)) (fun _ hk => hk.2) (.slice Ao30 t310.length co30)) (fun _ hk => hk.2) (.slice Ao29 t313.length co29)) (fun _ hk => hk.2) (.int .i64 t316)) (fun _ h_ => h_.1))) hb);have n3_:=A0_.mk (blk_below (g:=gb301) (o:=.cells #[.int .i64 a0_0,.slice A0_1 l0_1.length c0_1,.slice A0_2 l0_2.length c0_2,.slice A0_3 l0_3.length c0_3,.int .i64 a0_4] 28 (0,0)) (by (with_reducible repeat (first|refine bN_ ?_ _|refine bD_ ?_|refine bA_ ?_ _));refine blk_far ?_ NB301_317.out _;(with_reducible repeat (first|refine bN_ ?_ _|refine bD_ ?_|refine bA_ ?_ _));refine blk_far ?_ NB301_317.out _;(with_reducible repeat (first|refine bN_ ?_ _|refine bD_ ?_|refine bA_ ?_ _));refine blk_far ?_ NB301_317.out _;(with_reducible repeat (first|refine bN_ ?_ _|refine bD_ ?_|refine bA_ ?_ _));refine blk_far ?_ NB301_317.out _;(with_reducible repeat (first|refine bN_ ?_ _|refine bD_ ?_|refine bA_ ?_ _));refine blk_far ?_ NB301_317.out _;(with_reducible repeat (first|refine bN_ ?_ _|refine bD_ ?_|refine bA_ ?_ _));exact BK301.out) hb);have n4_:=A0_.mk (blk_below (g:=gb302) (o:=.cells #[.int .i64 a1_0,.int .i64 a1_1] 30 (0,0)) (by (with_reducible repeat (first|refine bN_ ?_ _|refine bD_ ?_|refine bA_ ?_ _));refine blk_far ?_ NB302_317.out _;(with_reducible repeat (first|refine bN_ ?_ _|refine bD_ ?_|refine bA_ ?_ _));refine blk_far ?_ NB302_317.out _;(with_reducible repeat (first|refine bN_ ?_ _|refine bD_ ?_|refine bA_ ?_ _));refine blk_far ?_ NB302_317.out _;(with_reducible repeat (first|refine bN_ ?_ _|refine bD_ ?_|refine bA_ ?_ _));refine blk_far ?_ NB302_317.out _;(with_reducible repeat (first|refine bN_ ?_ _|refine bD_ ?_|refine bA_ ?_ _));refine blk_far ?_ NB302_317.out _;(with_reducible repeat (first|refine bN_ ?_ _|refine bD_ ?_|refine bA_ ?_ _));exact BK302.out) hb);have n5_:=A0_.mk (blk_below (g:=gb317) (o:=.cells #[.int .i64 a0_0,.slice Ao31 y307.length co31,.slice Ao30 t310.length co30,.slice Ao29 t313.length co29,.int .i64 t316] 28 (0,0)) (by (with_reducible repeat (first|refine bN_ ?_ _|refine bD_ ?_|refine bA_ ?_ _));refine blk_put (cs:=#[.int .i64 a0_0,.slice Ao31 y307.length co31,.slice Ao30 t310.length co30,.slice Ao29 t313.length co29,.int .i64 0]) ?_ 4 _ rfl;(with_reducible repeat (first|refine bN_ ?_ _|refine bD_ ?_|refine bA_ ?_ _));refine blk_put (cs:=#[.int .i64 a0_0,.slice Ao31 y307.length co31,.slice Ao30 t310.length co30,.slice none 0 0,.int .i64 0]) ?_ 3 _ rfl;(with_reducible repeat (first|refine bN_ ?_ _|refine bD_ ?_|refine bA_ ?_ _));refine blk_put (cs:=#[.int .i64 a0_0,.slice Ao31 y307.length co31,.slice none 0 0,.slice none 0 0,.int .i64 0]) ?_ 2 _ rfl;(with_reducible repeat (first|refine bN_ ?_ _|refine bD_ ?_|refine bA_ ?_ _));refine blk_put (cs:=#[.int .i64 a0_0,.slice none 0 0,.slice none 0 0,.slice none 0 0,.int .i64 0]) ?_ 1 _ rfl;(with_reducible repeat (first|refine bN_ ?_ _|refine bD_ ?_|refine bA_ ?_ _));refine blk_put (cs:=#[.int .i64 0,.slice none 0 0,.slice none 0 0,.slice none 0 0,.int .i64 0]) ?_ 0 _ rfl;(with_reducible repeat (first|refine bN_ ?_ _|refine bD_ ?_|refine bA_ ?_ _));exact BK317.out) hb);have n6_:=A0_.mk (below_step (by repeat (first|(with_reducible first|exact HB.out|apply eA_|apply eN_|apply eD_|refine eS_ ?_ GE301.out|refine eS_ ?_ GE302.out|refine eS_ ?_ GE317.out)|exact HB.out)) hb);clear HO309;clear HO312;clear HO315;clear BK301;clear BK302;clear BK317;clear HB;have HO309:=n0_;have HO312:=n1_;have HO315:=n2_;have BK301:=n3_;have BK302:=n4_;have BK317:=n5_;have HB:=n6_;clear n0_ n1_ n2_ n3_ n4_ n5_ n6_;(try clear hb);(try clear hb2);(try clear hk);(try clear hi);have hcz43_0 : w42.cell? ⟨gb301,0,none⟩ = some (.int .i64 a0_0):=(bC_ BK301.out 0).trans rfl;have hcz43_1 : w42.cell? ⟨gb301,1,none⟩ = some (.slice A0_1 l0_1.length c0_1):=(bC_ BK301.out 1).trans rfl;have hcz43_2 : w42.cell? ⟨gb301,2,none⟩ = some (.slice A0_2 l0_2.length c0_2):=(bC_ BK301.out 2).trans rfl;have hcz43_3 : w42.cell? ⟨gb301,3,none⟩ = some (.slice A0_3 l0_3.length c0_3):=(bC_ BK301.out 3).trans rfl;have hcz43_4 : w42.cell? ⟨gb301,4,none⟩ = some (.int .i64 a0_4):=(bC_ BK301.out 4).trans rfl;have hfz43_0:=bF_ BK301.out 0;have hfz43_1:=bF_ BK301.out 1;have hfz43_2:=bF_ BK301.out 2;have hfz43_3:=bF_ BK301.out 3;have hfz43_4:=bF_ BK301.out 4;have hcz44_0 : w42.cell? ⟨gb302,0,none⟩ = some (.int .i64 a1_0):=(bC_ BK302.out 0).trans rfl;have hcz44_1 : w42.cell? ⟨gb302,1,none⟩ = some (.int .i64 a1_1):=(bC_ BK302.out 1).trans rfl;have hfz44_0:=bF_ BK302.out 0;have hfz44_1:=bF_ BK302.out 1)|((with_reducible refine gate_callee (f:=14) rfl ?_);refine goesL_ (some 37) rfl rfl Tryd.func14 (by kernel_rfl) rfl #[.agg #[.int .i64 a0_0,.slice A0_1 l0_1.length c0_1,.slice A0_2 l0_2.length c0_2,.slice A0_3 l0_3.length c0_3,.int .i64 a0_4],.int .i64 a1_0,.int .i64 a1_1] rfl (by (try simp only [List.map_toArray,List.map_cons,List.map_nil]);first|done|rfl|(simp only [List.length_drop,List.length_take];rfl)) ?_;(with_reducible refine (trestleref12_Print.calls a0_0 _ _ l0_1 _ _ l0_2 _ _ l0_3 a0_4 a1_0 a1_1 t320 t321 _ ?side1 ?side2 ?side3 ?side4 ?side5 ?side6 A8.out).mono ?_);(case side1 => repeat (first|exact (Kd.C_below HR0_1.out HB.out)|(with_reducible refine Kd.C_alloc ?_ _)|(with_reducible refine Kd.C_drewN ?_ _)|(with_reducible refine Kd.C_drew ?_)));(case side2 => exact HC0_1.out);(case side3 => repeat (first|exact (Kd.C_below HR0_2.out HB.out)|(with_reducible refine Kd.C_alloc ?_ _)|(with_reducible refine Kd.C_drewN ?_ _)|(with_reducible refine Kd.C_drew ?_)));(case side4 => exact HC0_2.out);(case side5 => repeat (first|exact (Kd.C_below HR0_3.out HB.out)|(with_reducible refine Kd.C_alloc ?_ _)|(with_reducible refine Kd.C_drewN ?_ _)|(with_reducible refine Kd.C_drew ?_)));(case side6 => exact HC0_3.out);rintro e w45 ⟨rfl,hb⟩;refine ⟨_,rfl,?_⟩;have n0_:=A0_.mk (Kd.R_below (by (with_reducible repeat (first|apply Kd.R_alloc|apply Kd.R_drewN|apply Kd.R_drew));exact HO309.out) hb);have n1_:=A0_.mk (Kd.R_below (by (with_reducible repeat (first|apply Kd.R_alloc|apply Kd.R_drewN|apply Kd.R_drew));exact HO312.out) hb);have n2_:=A0_.mk (Kd.S_below (by (with_reducible repeat (first|apply Kd.S_alloc|apply Kd.S_drewN|apply Kd.S_drew));exact HO315.out) hb);have n3_:=A0_.mk (blk_below (g:=gb301) (o:=.cells #[.int .i64 a0_0,.slice A0_1 l0_1.length c0_1,.slice A0_2 l0_2.length c0_2,.slice A0_3 l0_3.length c0_3,.int .i64 a0_4] 28 (0,0)) (by (with_reducible repeat (first|refine bN_ ?_ _|refine bD_ ?_|refine bA_ ?_ _));exact BK301.out) hb);have n4_:=A0_.mk (blk_below (g:=gb302) (o:=.cells #[.int .i64 a1_0,.int .i64 a1_1] 30 (0,0)) (by (with_reducible repeat (first|refine bN_ ?_ _|refine bD_ ?_|refine bA_ ?_ _));exact BK302.out) hb);have n5_:=A0_.mk (blk_below (g:=gb317) (o:=.cells #[.int .i64 a0_0,.slice Ao31 y307.length co31,.slice Ao30 t310.length co30,.slice Ao29 t313.length co29,.int .i64 t316] 28 (0,0)) (by (with_reducible repeat (first|refine bN_ ?_ _|refine bD_ ?_|refine bA_ ?_ _));exact BK317.out) hb);have n6_:=A0_.mk (below_step (by repeat (first|(with_reducible first|exact HB.out|apply eA_|apply eN_|apply eD_|refine eS_ ?_ GE301.out|refine eS_ ?_ GE302.out|refine eS_ ?_ GE317.out)|exact HB.out)) hb);clear HO309;clear HO312;clear HO315;clear BK301;clear BK302;clear BK317;clear HB;have HO309:=n0_;have HO312:=n1_;have HO315:=n2_;have BK301:=n3_;have BK302:=n4_;have BK317:=n5_;have HB:=n6_;clear n0_ n1_ n2_ n3_ n4_ n5_ n6_;(try clear hb);(try clear hb2);(try clear hk);(try clear hi)))
       have n0_:=A0_.mk (Kd.R_drew HO309.out)
       have n1_:=A0_.mk (Kd.R_drew HO312.out)
       have n2_:=A0_.mk (Kd.S_drew HO315.out)
       have n3_:=A0_.mk (bD_ BK301.out)
       have n4_:=A0_.mk (bD_ BK302.out)
       have n5_:=A0_.mk (bD_ BK317.out)
       have n6_:=A0_.mk (eD_ HB.out)
       clear HO309
       clear HO312
       clear HO315
       clear BK301
       clear BK302
       clear BK317
       clear HB
       have HO309:=n0_
       have HO312:=n1_
       have HO315:=n2_
       have BK301:=n3_
       have BK302:=n4_
       have BK317:=n5_
       have HB:=n6_
       clear n0_ n1_ n2_ n3_ n4_ n5_ n6_
       refine start_ (n:=32) (S:=fun w' => w'.cell? ⟨gb317,0,none⟩ = some (.int .i64 a0_0) ∧ w'.cell? ⟨gb317,1,none⟩ = some (.slice Ao31 y307.length co31) ∧ w'.cell? ⟨gb317,2,none⟩ = some (.slice Ao30 t310.length co30) ∧ w'.cell? ⟨gb317,3,none⟩ = some (.slice Ao29 t313.length co29) ∧ w'.cell? ⟨gb317,4,none⟩ = some (.int .i64 t316) ∧ w'.cell? ⟨gb302,0,none⟩ = some (.int .i64 a1_0) ∧ w'.cell? ⟨gb302,1,none⟩ = some (.int .i64 a1_1) ∧ w'.cell? ⟨gb301,0,none⟩ = some (.int .i64 a0_0) ∧ w'.cell? ⟨gb301,1,none⟩ = some (.slice A0_1 l0_1.length c0_1) ∧ w'.cell? ⟨gb301,2,none⟩ = some (.slice A0_2 l0_2.length c0_2) ∧ w'.cell? ⟨gb301,3,none⟩ = some (.slice A0_3 l0_3.length c0_3) ∧ w'.cell? ⟨gb301,4,none⟩ = some (.int .i64 a0_4)) (ds:=[]) #[false,false,false,false,false,false,false,false,false,false,false,false,false,false,false,false,false,false,false,false,false,false,false,false,false,false,false,false,false,false,false,false] (by kernel_rfl) rfl rfl ⟨(bC_ BK317.out 0).trans rfl,(bC_ BK317.out 1).trans rfl,(bC_ BK317.out 2).trans rfl,(bC_ BK317.out 3).trans rfl,(bC_ BK317.out 4).trans rfl,(bC_ BK302.out 0).trans rfl,(bC_ BK302.out 1).trans rfl,(bC_ BK301.out 0).trans rfl,(bC_ BK301.out 1).trans rfl,(bC_ BK301.out 2).trans rfl,(bC_ BK301.out 3).trans rfl,(bC_ BK301.out 4).trans rfl⟩ (fun hHeld => ?_);refine with_tabW trestlelaw12_StimPrints.tab6 trestlelaw12_StimPrints.bits6 (fun HT_ HW_ => ?_)
       generalize w45.drew = w46 at HO309 HO312 HO315 BK301 BK302 BK317 HB hHeld ⊢
       refine pure_ (i:=0) (N:=some 40) (v:=?_) (a':=?_) #[true,false,false,false,false,false,false,false,false,false,false,false,false,false,false,false,false,false,false,false,false,false,false,false,false,false,false,false,false,false,false,false] rfl rfl (any_of HT_.out (by kernel_rfl)) (fun _ _ _ h => h) (Or.inl ⟨by rfl,?_⟩) ?_ ?_
       rotate_left
       ·intro w'
        go_simp
        with_reducible rfl
       rotate_left
       ·simp only [Act.put,List.setIfInBounds_toArray,List.set_cons_zero,List.set_cons_succ,i64_w,i32_w]
        rfl
       refine pure_ (i:=1) (N:=some 41) (v:=?_) (a':=?_) #[true,true,false,false,false,false,false,false,false,false,false,false,false,false,false,false,false,false,false,false,false,false,false,false,false,false,false,false,false,false,false,false] rfl rfl (any_of HT_.out (by kernel_rfl)) (fun _ _ _ h => h) (Or.inl ⟨by rfl,?_⟩) ?_ ?_
       rotate_left
       ·intro w'
        go_simp
        with_reducible rfl
       rotate_left
       ·simp only [Act.put,List.setIfInBounds_toArray,List.set_cons_zero,List.set_cons_succ,i64_w,i32_w]
        rfl
       refine pure_ (i:=2) (N:=some 42) (v:=?_) (a':=?_) #[true,true,true,false,false,false,false,false,false,false,false,false,false,false,false,false,false,false,false,false,false,false,false,false,false,false,false,false,false,false,false,false] rfl rfl (any_of HT_.out (by kernel_rfl)) (fun _ _ _ h => h) (Or.inl ⟨by rfl,?_⟩) ?_ ?_
       rotate_left
       ·intro w'
        go_simp
        with_reducible rfl
       rotate_left
       ·simp only [Act.put,List.setIfInBounds_toArray,List.set_cons_zero,List.set_cons_succ,i64_w,i32_w]
        rfl
       refine pure_ (i:=3) (N:=some 43) (v:=?_) (a':=?_) #[true,true,true,true,false,false,false,false,false,false,false,false,false,false,false,false,false,false,false,false,false,false,false,false,false,false,false,false,false,false,false,false] rfl rfl (any_of HT_.out (by kernel_rfl)) (fun _ _ _ h => h) (Or.inl ⟨by rfl,?_⟩) ?_ ?_
       rotate_left
       ·intro w'
        go_simp
        with_reducible rfl
       rotate_left
       ·simp only [Act.put,List.setIfInBounds_toArray,List.set_cons_zero,List.set_cons_succ,i64_w,i32_w]
        rfl
       refine pure_ (i:=4) (N:=some 44) (v:=?_) (a':=?_) #[true,true,true,true,true,false,false,false,false,false,false,false,false,false,false,false,false,false,false,false,false,false,false,false,false,false,false,false,false,false,false,false] rfl rfl (any_of HT_.out (by kernel_rfl)) (fun _ _ _ h => h) (Or.inl ⟨by rfl,?_⟩) ?_ ?_
       rotate_left
       ·intro w'
        go_simp
        with_reducible rfl
       rotate_left
       ·simp only [Act.put,List.setIfInBounds_toArray,List.set_cons_zero,List.set_cons_succ,i64_w,i32_w]
        rfl
       refine pure_ (i:=5) (N:=some 45) (v:=?_) (a':=?_) #[true,true,true,true,true,true,false,false,false,false,false,false,false,false,false,false,false,false,false,false,false,false,false,false,false,false,false,false,false,false,false,false] rfl rfl (any_of HT_.out (by kernel_rfl)) (fun _ _ _ h => h) (Or.inl ⟨by rfl,?_⟩) ?_ ?_
       rotate_left
       ·intro w'
        go_simp
        with_reducible rfl
       rotate_left
       ·simp only [Act.put,List.setIfInBounds_toArray,List.set_cons_zero,List.set_cons_succ,i64_w,i32_w]
        rfl
       refine pure_ (i:=6) (N:=some 46) (v:=?_) (a':=?_) #[true,true,true,true,true,true,true,false,false,false,false,false,false,false,false,false,false,false,false,false,false,false,false,false,false,false,false,false,false,false,false,false] rfl rfl (any_of HT_.out (by kernel_rfl)) (fun _ _ _ h => h) (Or.inl ⟨by rfl,?_⟩) ?_ ?_
       rotate_left
       ·intro w'
        go_simp
        with_reducible rfl
       rotate_left
       ·simp only [Act.put,List.setIfInBounds_toArray,List.set_cons_zero,List.set_cons_succ,i64_w,i32_w]
        rfl
       refine pure_ (i:=7) (N:=some 47) (v:=?_) (a':=?_) #[true,true,true,true,true,true,true,true,false,false,false,false,false,false,false,false,false,false,false,false,false,false,false,false,false,false,false,false,false,false,false,false] rfl rfl (any_of HT_.out (by kernel_rfl)) (fun _ _ _ h => h) (Or.inl ⟨by rfl,?_⟩) ?_ ?_
       rotate_left
       ·intro w'
        go_simp
        with_reducible rfl
       rotate_left
       ·simp only [Act.put,List.setIfInBounds_toArray,List.set_cons_zero,List.set_cons_succ,i64_w,i32_w]
        rfl
       refine pure_ (i:=8) (N:=some 48) (v:=?_) (a':=?_) #[true,true,true,true,true,true,true,true,true,false,false,false,false,false,false,false,false,false,false,false,false,false,false,false,false,false,false,false,false,false,false,false] rfl rfl (any_of HT_.out (by kernel_rfl)) (fun _ _ _ h => h) (Or.inl ⟨by rfl,?_⟩) ?_ ?_
       rotate_left
       ·intro w'
        go_simp
        with_reducible rfl
       rotate_left
       ·simp only [Act.put,List.setIfInBounds_toArray,List.set_cons_zero,List.set_cons_succ,i64_w,i32_w]
        rfl
       refine pure_ (i:=10) (N:=some 50) (v:=?_) (a':=?_) #[true,true,true,true,true,true,true,true,true,false,true,false,false,false,false,false,false,false,false,false,false,false,false,false,false,false,false,false,false,false,false,false] rfl rfl (any_of HT_.out (by kernel_rfl)) (fun _ _ _ h => h) (Or.inl ⟨by rfl,?_⟩) ?_ ?_
       rotate_left
       ·intro w'
        go_simp
        with_reducible rfl
       rotate_left
       ·simp only [Act.put,List.setIfInBounds_toArray,List.set_cons_zero,List.set_cons_succ,i64_w,i32_w]
        rfl
       refine pure_ (i:=12) (N:=some 52) (v:=?_) (a':=?_) #[true,true,true,true,true,true,true,true,true,false,true,false,true,false,false,false,false,false,false,false,false,false,false,false,false,false,false,false,false,false,false,false] rfl rfl (any_of HT_.out (by kernel_rfl)) (fun _ _ _ h => h) (Or.inl ⟨by rfl,?_⟩) ?_ ?_
       rotate_left
       ·intro w'
        go_simp
        with_reducible rfl
       rotate_left
       ·simp only [Act.put,List.setIfInBounds_toArray,List.set_cons_zero,List.set_cons_succ,i64_w,i32_w]
        rfl
       refine pure_ (i:=16) (N:=some 56) (v:=?_) (a':=?_) #[true,true,true,true,true,true,true,true,true,false,true,false,true,false,false,false,true,false,false,false,false,false,false,false,false,false,false,false,false,false,false,false] rfl rfl (any_of HT_.out (by kernel_rfl)) (fun _ _ _ h => h) (Or.inl ⟨by rfl,?_⟩) ?_ ?_
       rotate_left
       ·intro w'
        go_simp
        with_reducible rfl
       rotate_left
       ·simp only [Act.put,List.setIfInBounds_toArray,List.set_cons_zero,List.set_cons_succ,i64_w,i32_w]
        rfl
       refine pure_ (i:=18) (N:=some 58) (v:=?_) (a':=?_) #[true,true,true,true,true,true,true,true,true,false,true,false,true,false,false,false,true,false,true,false,false,false,false,false,false,false,false,false,false,false,false,false] rfl rfl (any_of HT_.out (by kernel_rfl)) (fun _ _ _ h => h) (Or.inl ⟨by rfl,?_⟩) ?_ ?_
       rotate_left
       ·intro w'
        go_simp
        with_reducible rfl
       rotate_left
       ·simp only [Act.put,List.setIfInBounds_toArray,List.set_cons_zero,List.set_cons_succ,i64_w,i32_w]
        rfl
       refine take_ (i:=9) (N:=some 49) (v:=?_) (a':=?_) #[true,true,true,true,true,true,true,true,true,true,true,false,true,false,false,false,true,false,true,false,false,false,false,false,false,false,false,false,false,false,false,false] rfl rfl (take_ofW HT_.out HW_.out (by kernel_rfl)) (fun _ _ _ h => h) (Or.inl ⟨by rfl,?_⟩) hHeld ?_ ?_
       rotate_left
       ·rintro w' ⟨s0,s1,s2,s3,s4,s5,s6,s7,s8,s9,s10,s11⟩
        go_simp
        with_reducible rfl
       rotate_left
       ·simp only [Act.put,List.setIfInBounds_toArray,List.set_cons_zero,List.set_cons_succ,i64_w,i32_w]
        rfl
       refine take_ (i:=11) (N:=some 51) (v:=?_) (a':=?_) #[true,true,true,true,true,true,true,true,true,true,true,true,true,false,false,false,true,false,true,false,false,false,false,false,false,false,false,false,false,false,false,false] rfl rfl (take_ofW HT_.out HW_.out (by kernel_rfl)) (fun _ _ _ h => h) (Or.inl ⟨by rfl,?_⟩) hHeld ?_ ?_
       rotate_left
       ·rintro w' ⟨s0,s1,s2,s3,s4,s5,s6,s7,s8,s9,s10,s11⟩
        go_simp
        with_reducible rfl
       rotate_left
       ·simp only [Act.put,List.setIfInBounds_toArray,List.set_cons_zero,List.set_cons_succ,i64_w,i32_w]
        rfl
       refine take_ (i:=13) (N:=some 53) (v:=?_) (a':=?_) #[true,true,true,true,true,true,true,true,true,true,true,true,true,true,false,false,true,false,true,false,false,false,false,false,false,false,false,false,false,false,false,false] rfl rfl (take_ofW HT_.out HW_.out (by kernel_rfl)) (fun _ _ _ h => h) (Or.inl ⟨by rfl,?_⟩) hHeld ?_ ?_
       rotate_left
       ·rintro w' ⟨s0,s1,s2,s3,s4,s5,s6,s7,s8,s9,s10,s11⟩
        go_simp
        with_reducible rfl
       rotate_left
       ·simp only [Act.put,List.setIfInBounds_toArray,List.set_cons_zero,List.set_cons_succ,i64_w,i32_w]
        rfl
       refine take_ (i:=15) (N:=some 55) (v:=?_) (a':=?_) #[true,true,true,true,true,true,true,true,true,true,true,true,true,true,false,true,true,false,true,false,false,false,false,false,false,false,false,false,false,false,false,false] rfl rfl (take_ofW HT_.out HW_.out (by kernel_rfl)) (fun _ _ _ h => h) (Or.inl ⟨by rfl,?_⟩) hHeld ?_ ?_
       rotate_left
       ·rintro w' ⟨s0,s1,s2,s3,s4,s5,s6,s7,s8,s9,s10,s11⟩
        go_simp
        with_reducible rfl
       rotate_left
       ·simp only [Act.put,List.setIfInBounds_toArray,List.set_cons_zero,List.set_cons_succ,i64_w,i32_w]
        rfl
       refine take_ (i:=17) (N:=some 57) (v:=?_) (a':=?_) #[true,true,true,true,true,true,true,true,true,true,true,true,true,true,false,true,true,true,true,false,false,false,false,false,false,false,false,false,false,false,false,false] rfl rfl (take_ofW HT_.out HW_.out (by kernel_rfl)) (fun _ _ _ h => h) (Or.inl ⟨by rfl,?_⟩) hHeld ?_ ?_
       rotate_left
       ·rintro w' ⟨s0,s1,s2,s3,s4,s5,s6,s7,s8,s9,s10,s11⟩
        go_simp
        with_reducible rfl
       rotate_left
       ·simp only [Act.put,List.setIfInBounds_toArray,List.set_cons_zero,List.set_cons_succ,i64_w,i32_w]
        rfl
       refine take_ (i:=19) (N:=some 59) (v:=?_) (a':=?_) #[true,true,true,true,true,true,true,true,true,true,true,true,true,true,false,true,true,true,true,true,false,false,false,false,false,false,false,false,false,false,false,false] rfl rfl (take_ofW HT_.out HW_.out (by kernel_rfl)) (fun _ _ _ h => h) (Or.inl ⟨by rfl,?_⟩) hHeld ?_ ?_
       rotate_left
       ·rintro w' ⟨s0,s1,s2,s3,s4,s5,s6,s7,s8,s9,s10,s11⟩
        go_simp
        with_reducible rfl
       rotate_left
       ·simp only [Act.put,List.setIfInBounds_toArray,List.set_cons_zero,List.set_cons_succ,i64_w,i32_w]
        rfl
       refine one_ (i:=14) (N:=some 54) #[true,true,true,true,true,true,true,true,true,true,true,true,true,true,true,true,true,true,true,true,false,false,false,false,false,false,false,false,false,false,false,false] rfl rfl (one_of HT_.out (by kernel_rfl)) (by decide) (fun K hK => ?_)
       refine goes_ Tryd.func15 (by kernel_rfl) rfl #[.agg #[.int .i64 a0_0,.slice Ao31 y307.length co31,.slice Ao30 t310.length co30,.slice Ao29 t313.length co29,.int .i64 t316],.int .i64 a1_0,.int .i64 a1_1] (by rfl) rfl rfl (by (try simp only [List.map_toArray,List.map_cons,List.map_nil]);first|done|rfl|(simp only [List.length_drop,List.length_take];rfl)) ?_
       with_reducible refine (stim_Check.calls k a0_0 _ _ y307 _ _ t310 _ _ t313 t316 a1_0 a1_1 t322 _ ?side1 ?side2 ?side3 ?side4 ?side5 ?side6 A11.out).mono ?_
       (case side1 => repeat (first|exact (Kd.R_reads' HO309.out).2.2|(with_reducible refine Kd.C_alloc ?_ _)|(with_reducible refine Kd.C_drewN ?_ _)|(with_reducible refine Kd.C_drew ?_)))
       (case side2 => exact (Kd.R_reads' HO309.out).2.1)
       (case side3 => repeat (first|exact (Kd.R_reads' HO312.out).2.2|(with_reducible refine Kd.C_alloc ?_ _)|(with_reducible refine Kd.C_drewN ?_ _)|(with_reducible refine Kd.C_drew ?_)))
       (case side4 => exact (Kd.R_reads' HO312.out).2.1)
       (case side5 => repeat (first|exact (Kd.S_reads' HO315.out).2.2|(with_reducible refine Kd.C_alloc ?_ _)|(with_reducible refine Kd.C_drewN ?_ _)|(with_reducible refine Kd.C_drew ?_)))
       (case side6 => exact (Kd.S_reads' HO315.out).2.1)
       rintro e w47 ⟨rfl,hb⟩
       refine ⟨_,rfl,?_⟩
       have n0_:=A0_.mk (Kd.R_below (by (with_reducible repeat (first|apply Kd.R_alloc|apply Kd.R_drewN|apply Kd.R_drew));exact HO309.out) hb)
       have n1_:=A0_.mk (Kd.R_below (by (with_reducible repeat (first|apply Kd.R_alloc|apply Kd.R_drewN|apply Kd.R_drew));exact HO312.out) hb)
       have n2_:=A0_.mk (Kd.S_below (by (with_reducible repeat (first|apply Kd.S_alloc|apply Kd.S_drewN|apply Kd.S_drew));exact HO315.out) hb)
       have n3_:=A0_.mk (blk_below (g:=gb301) (o:=.cells #[.int .i64 a0_0,.slice A0_1 l0_1.length c0_1,.slice A0_2 l0_2.length c0_2,.slice A0_3 l0_3.length c0_3,.int .i64 a0_4] 28 (0,0)) (by (with_reducible repeat (first|refine bN_ ?_ _|refine bD_ ?_|refine bA_ ?_ _));exact BK301.out) hb)
       have n4_:=A0_.mk (blk_below (g:=gb302) (o:=.cells #[.int .i64 a1_0,.int .i64 a1_1] 30 (0,0)) (by (with_reducible repeat (first|refine bN_ ?_ _|refine bD_ ?_|refine bA_ ?_ _));exact BK302.out) hb)
       have n5_:=A0_.mk (blk_below (g:=gb317) (o:=.cells #[.int .i64 a0_0,.slice Ao31 y307.length co31,.slice Ao30 t310.length co30,.slice Ao29 t313.length co29,.int .i64 t316] 28 (0,0)) (by (with_reducible repeat (first|refine bN_ ?_ _|refine bD_ ?_|refine bA_ ?_ _));exact BK317.out) hb)
       have n6_:=A0_.mk (below_step (by repeat (first|(with_reducible first|exact HB.out|apply eA_|apply eN_|apply eD_|refine eS_ ?_ GE301.out|refine eS_ ?_ GE302.out|refine eS_ ?_ GE317.out)|exact HB.out)) hb)
       clear HO309
       clear HO312
       clear HO315
       clear BK301
       clear BK302
       clear BK317
       clear HB
       have HO309:=n0_
       have HO312:=n1_
       have HO315:=n2_
       have BK301:=n3_
       have BK302:=n4_
       have BK317:=n5_
       have HB:=n6_
       clear n0_ n1_ n2_ n3_ n4_ n5_ n6_
       (try clear hb)
       (try clear hb2)
       (try clear hk)
       (try clear hi)
       refine hK.out _ _ ⟨(bC_ BK317.out 0).trans rfl,(bC_ BK317.out 1).trans rfl,(bC_ BK317.out 2).trans rfl,(bC_ BK317.out 3).trans rfl,(bC_ BK317.out 4).trans rfl,(bC_ BK302.out 0).trans rfl,(bC_ BK302.out 1).trans rfl,(bC_ BK301.out 0).trans rfl,(bC_ BK301.out 1).trans rfl,(bC_ BK301.out 2).trans rfl,(bC_ BK301.out 3).trans rfl,(bC_ BK301.out 4).trans rfl⟩ (fun hHeld => ?_)
       clear hK K
       refine norm_ (a':=?_) ?_ ?_
       rotate_left
       ·show Act.put _ (some 54) _ = _
        simp only [Act.put,List.setIfInBounds_toArray,List.set_cons_zero,List.set_cons_succ,i64_w,i32_w]
        rfl
       refine one_ (i:=20) (N:=some 60) #[true,true,true,true,true,true,true,true,true,true,true,true,true,true,true,true,true,true,true,true,true,false,false,false,false,false,false,false,false,false,false,false] rfl rfl (one_of HT_.out (by kernel_rfl)) (by decide) (fun K hK => ?_)
       refine goes_ Tryd.func16 (by kernel_rfl) rfl #[.agg #[.int .i64 a0_0,.slice A0_1 l0_1.length c0_1,.slice A0_2 l0_2.length c0_2,.slice A0_3 l0_3.length c0_3,.int .i64 a0_4],.int .i64 a1_0,.int .i64 a1_1] (by rfl) rfl rfl (by (try simp only [List.map_toArray,List.map_cons,List.map_nil]);first|done|rfl|(simp only [List.length_drop,List.length_take];rfl)) ?_
       with_reducible refine (trestleref12_Check.calls k a0_0 _ _ l0_1 _ _ l0_2 _ _ l0_3 a0_4 a1_0 a1_1 t323 _ ?side1 ?side2 ?side3 ?side4 ?side5 ?side6 A12.out).mono ?_
       (case side1 => repeat (first|exact (Kd.C_below HR0_1.out HB.out)|(with_reducible refine Kd.C_alloc ?_ _)|(with_reducible refine Kd.C_drewN ?_ _)|(with_reducible refine Kd.C_drew ?_)))
       (case side2 => exact HC0_1.out)
       (case side3 => repeat (first|exact (Kd.C_below HR0_2.out HB.out)|(with_reducible refine Kd.C_alloc ?_ _)|(with_reducible refine Kd.C_drewN ?_ _)|(with_reducible refine Kd.C_drew ?_)))
       (case side4 => exact HC0_2.out)
       (case side5 => repeat (first|exact (Kd.C_below HR0_3.out HB.out)|(with_reducible refine Kd.C_alloc ?_ _)|(with_reducible refine Kd.C_drewN ?_ _)|(with_reducible refine Kd.C_drew ?_)))
       (case side6 => exact HC0_3.out)
       rintro e w48 ⟨rfl,hb⟩
       refine ⟨_,rfl,?_⟩
       have n0_:=A0_.mk (Kd.R_below (by (with_reducible repeat (first|apply Kd.R_alloc|apply Kd.R_drewN|apply Kd.R_drew));exact HO309.out) hb)
       have n1_:=A0_.mk (Kd.R_below (by (with_reducible repeat (first|apply Kd.R_alloc|apply Kd.R_drewN|apply Kd.R_drew));exact HO312.out) hb)
       have n2_:=A0_.mk (Kd.S_below (by (with_reducible repeat (first|apply Kd.S_alloc|apply Kd.S_drewN|apply Kd.S_drew));exact HO315.out) hb)
       have n3_:=A0_.mk (blk_below (g:=gb301) (o:=.cells #[.int .i64 a0_0,.slice A0_1 l0_1.length c0_1,.slice A0_2 l0_2.length c0_2,.slice A0_3 l0_3.length c0_3,.int .i64 a0_4] 28 (0,0)) (by (with_reducible repeat (first|refine bN_ ?_ _|refine bD_ ?_|refine bA_ ?_ _));exact BK301.out) hb)
       have n4_:=A0_.mk (blk_below (g:=gb302) (o:=.cells #[.int .i64 a1_0,.int .i64 a1_1] 30 (0,0)) (by (with_reducible repeat (first|refine bN_ ?_ _|refine bD_ ?_|refine bA_ ?_ _));exact BK302.out) hb)
       have n5_:=A0_.mk (blk_below (g:=gb317) (o:=.cells #[.int .i64 a0_0,.slice Ao31 y307.length co31,.slice Ao30 t310.length co30,.slice Ao29 t313.length co29,.int .i64 t316] 28 (0,0)) (by (with_reducible repeat (first|refine bN_ ?_ _|refine bD_ ?_|refine bA_ ?_ _));exact BK317.out) hb)
       have n6_:=A0_.mk (below_step (by repeat (first|(with_reducible first|exact HB.out|apply eA_|apply eN_|apply eD_|refine eS_ ?_ GE301.out|refine eS_ ?_ GE302.out|refine eS_ ?_ GE317.out)|exact HB.out)) hb)
       clear HO309
       clear HO312
       clear HO315
       clear BK301
       clear BK302
       clear BK317
       clear HB
       have HO309:=n0_
       have HO312:=n1_
       have HO315:=n2_
       have BK301:=n3_
       have BK302:=n4_
       have BK317:=n5_
       have HB:=n6_
       clear n0_ n1_ n2_ n3_ n4_ n5_ n6_
       (try clear hb)
       (try clear hb2)
       (try clear hk)
       (try clear hi)
       refine hK.out _ _ ⟨(bC_ BK317.out 0).trans rfl,(bC_ BK317.out 1).trans rfl,(bC_ BK317.out 2).trans rfl,(bC_ BK317.out 3).trans rfl,(bC_ BK317.out 4).trans rfl,(bC_ BK302.out 0).trans rfl,(bC_ BK302.out 1).trans rfl,(bC_ BK301.out 0).trans rfl,(bC_ BK301.out 1).trans rfl,(bC_ BK301.out 2).trans rfl,(bC_ BK301.out 3).trans rfl,(bC_ BK301.out 4).trans rfl⟩ (fun hHeld => ?_)
       clear hK K
       refine norm_ (a':=?_) ?_ ?_
       rotate_left
       ·show Act.put _ (some 60) _ = _
        simp only [Act.put,List.setIfInBounds_toArray,List.set_cons_zero,List.set_cons_succ,i64_w,i32_w]
        rfl
       refine pure_ (i:=21) (N:=some 61) (v:=?_) (a':=?_) #[true,true,true,true,true,true,true,true,true,true,true,true,true,true,true,true,true,true,true,true,true,true,false,false,false,false,false,false,false,false,false,false] rfl rfl (any_of HT_.out (by kernel_rfl)) (fun _ _ _ h => h) (Or.inl ⟨by rfl,?_⟩) ?_ ?_
       rotate_left
       ·intro w'
        go_simp
        with_reducible rfl
       rotate_left
       ·simp only [Act.put,List.setIfInBounds_toArray,List.set_cons_zero,List.set_cons_succ,i64_w,i32_w]
        rfl
       refine pure_ (i:=22) (N:=some 62) (v:=?_) (a':=?_) #[true,true,true,true,true,true,true,true,true,true,true,true,true,true,true,true,true,true,true,true,true,true,true,false,false,false,false,false,false,false,false,false] rfl rfl (any_of HT_.out (by kernel_rfl)) (fun _ _ _ h => h) (Or.inl ⟨by rfl,?_⟩) ?_ ?_
       rotate_left
       ·intro w'
        go_simp
        with_reducible rfl
       rotate_left
       ·simp only [Act.put,List.setIfInBounds_toArray,List.set_cons_zero,List.set_cons_succ,i64_w,i32_w]
        rfl
       refine pure_ (i:=23) (N:=some 63) (v:=?_) (a':=?_) #[true,true,true,true,true,true,true,true,true,true,true,true,true,true,true,true,true,true,true,true,true,true,true,true,false,false,false,false,false,false,false,false] rfl rfl (any_of HT_.out (by kernel_rfl)) (fun _ _ _ h => h) (Or.inl ⟨by rfl,?_⟩) ?_ ?_
       rotate_left
       ·intro w'
        go_simp
        with_reducible rfl
       rotate_left
       ·simp only [Act.put,List.setIfInBounds_toArray,List.set_cons_zero,List.set_cons_succ,i64_w,i32_w]
        rfl
       refine take_ (i:=24) (N:=some 64) (v:=?_) (a':=?_) #[true,true,true,true,true,true,true,true,true,true,true,true,true,true,true,true,true,true,true,true,true,true,true,true,true,false,false,false,false,false,false,false] rfl rfl (take_ofW HT_.out HW_.out (by kernel_rfl)) (fun _ _ _ h => h) (Or.inl ⟨by rfl,?_⟩) hHeld ?_ ?_
       rotate_left
       ·rintro w' ⟨s0,s1,s2,s3,s4,s5,s6,s7,s8,s9,s10,s11⟩
        go_simp
        with_reducible rfl
       rotate_left
       ·simp only [Act.put,List.setIfInBounds_toArray,List.set_cons_zero,List.set_cons_succ,i64_w,i32_w]
        rfl
       refine take_ (i:=25) (N:=some 65) (v:=?_) (a':=?_) #[true,true,true,true,true,true,true,true,true,true,true,true,true,true,true,true,true,true,true,true,true,true,true,true,true,true,false,false,false,false,false,false] rfl rfl (take_ofW HT_.out HW_.out (by kernel_rfl)) (fun _ _ _ h => h) (Or.inl ⟨by rfl,?_⟩) hHeld ?_ ?_
       rotate_left
       ·rintro w' ⟨s0,s1,s2,s3,s4,s5,s6,s7,s8,s9,s10,s11⟩
        go_simp
        with_reducible rfl
       rotate_left
       ·simp only [Act.put,List.setIfInBounds_toArray,List.set_cons_zero,List.set_cons_succ,i64_w,i32_w]
        rfl
       refine one_ (i:=26) (N:=some 66) #[true,true,true,true,true,true,true,true,true,true,true,true,true,true,true,true,true,true,true,true,true,true,true,true,true,true,true,false,false,false,false,false] rfl rfl (one_of HT_.out (by kernel_rfl)) (by decide) (fun K hK => ?_)
       refine goes_ Tryd.func17 (by kernel_rfl) rfl #[.agg #[.int .i64 a0_0,.slice Ao31 y307.length co31,.slice Ao30 t310.length co30,.slice Ao29 t313.length co29,.int .i64 t316],.agg #[.int .i64 a0_0,.slice A0_1 l0_1.length c0_1,.slice A0_2 l0_2.length c0_2,.slice A0_3 l0_3.length c0_3,.int .i64 a0_4]] (by rfl) rfl rfl (by (try simp only [List.map_toArray,List.map_cons,List.map_nil]);first|done|rfl|(simp only [List.length_drop,List.length_take];rfl)) ?_
       with_reducible refine (trestlelaw12_same.calls k a0_0 _ _ y307 _ _ t310 _ _ t313 t316 a0_0 _ _ l0_1 _ _ l0_2 _ _ l0_3 a0_4 true _ ?side1 ?side2 ?side3 ?side4 ?side5 ?side6 ?side7 ?side8 ?side9 ?side10 ?side11 ?side12 A14.out).mono ?_
       (case side1 => repeat (first|exact (Kd.R_reads' HO309.out).2.2|(with_reducible refine Kd.C_alloc ?_ _)|(with_reducible refine Kd.C_drewN ?_ _)|(with_reducible refine Kd.C_drew ?_)))
       (case side2 => exact (Kd.R_reads' HO309.out).2.1)
       (case side3 => repeat (first|exact (Kd.R_reads' HO312.out).2.2|(with_reducible refine Kd.C_alloc ?_ _)|(with_reducible refine Kd.C_drewN ?_ _)|(with_reducible refine Kd.C_drew ?_)))
       (case side4 => exact (Kd.R_reads' HO312.out).2.1)
       (case side5 => repeat (first|exact (Kd.S_reads' HO315.out).2.2|(with_reducible refine Kd.C_alloc ?_ _)|(with_reducible refine Kd.C_drewN ?_ _)|(with_reducible refine Kd.C_drew ?_)))
       (case side6 => exact (Kd.S_reads' HO315.out).2.1)
       (case side7 => repeat (first|exact (Kd.C_below HR0_1.out HB.out)|(with_reducible refine Kd.C_alloc ?_ _)|(with_reducible refine Kd.C_drewN ?_ _)|(with_reducible refine Kd.C_drew ?_)))
       (case side8 => exact HC0_1.out)
       (case side9 => repeat (first|exact (Kd.C_below HR0_2.out HB.out)|(with_reducible refine Kd.C_alloc ?_ _)|(with_reducible refine Kd.C_drewN ?_ _)|(with_reducible refine Kd.C_drew ?_)))
       (case side10 => exact HC0_2.out)
       (case side11 => repeat (first|exact (Kd.C_below HR0_3.out HB.out)|(with_reducible refine Kd.C_alloc ?_ _)|(with_reducible refine Kd.C_drewN ?_ _)|(with_reducible refine Kd.C_drew ?_)))
       (case side12 => exact HC0_3.out)
       rintro e w49 ⟨rfl,hb⟩
       refine ⟨_,rfl,?_⟩
       have n0_:=A0_.mk (Kd.R_below (by (with_reducible repeat (first|apply Kd.R_alloc|apply Kd.R_drewN|apply Kd.R_drew));exact HO309.out) hb)
       have n1_:=A0_.mk (Kd.R_below (by (with_reducible repeat (first|apply Kd.R_alloc|apply Kd.R_drewN|apply Kd.R_drew));exact HO312.out) hb)
       have n2_:=A0_.mk (Kd.S_below (by (with_reducible repeat (first|apply Kd.S_alloc|apply Kd.S_drewN|apply Kd.S_drew));exact HO315.out) hb)
       have n3_:=A0_.mk (blk_below (g:=gb301) (o:=.cells #[.int .i64 a0_0,.slice A0_1 l0_1.length c0_1,.slice A0_2 l0_2.length c0_2,.slice A0_3 l0_3.length c0_3,.int .i64 a0_4] 28 (0,0)) (by (with_reducible repeat (first|refine bN_ ?_ _|refine bD_ ?_|refine bA_ ?_ _));exact BK301.out) hb)
       have n4_:=A0_.mk (blk_below (g:=gb302) (o:=.cells #[.int .i64 a1_0,.int .i64 a1_1] 30 (0,0)) (by (with_reducible repeat (first|refine bN_ ?_ _|refine bD_ ?_|refine bA_ ?_ _));exact BK302.out) hb)
       have n5_:=A0_.mk (blk_below (g:=gb317) (o:=.cells #[.int .i64 a0_0,.slice Ao31 y307.length co31,.slice Ao30 t310.length co30,.slice Ao29 t313.length co29,.int .i64 t316] 28 (0,0)) (by (with_reducible repeat (first|refine bN_ ?_ _|refine bD_ ?_|refine bA_ ?_ _));exact BK317.out) hb)
       have n6_:=A0_.mk (below_step (by repeat (first|(with_reducible first|exact HB.out|apply eA_|apply eN_|apply eD_|refine eS_ ?_ GE301.out|refine eS_ ?_ GE302.out|refine eS_ ?_ GE317.out)|exact HB.out)) hb)
       clear HO309
       clear HO312
       clear HO315
       clear BK301
       clear BK302
       clear BK317
       clear HB
       have HO309:=n0_
       have HO312:=n1_
       have HO315:=n2_
       have BK301:=n3_
       have BK302:=n4_
       have BK317:=n5_
       have HB:=n6_
       clear n0_ n1_ n2_ n3_ n4_ n5_ n6_
       (try clear hb)
       (try clear hb2)
       (try clear hk)
       (try clear hi)
       refine hK.out _ _ ⟨(bC_ BK317.out 0).trans rfl,(bC_ BK317.out 1).trans rfl,(bC_ BK317.out 2).trans rfl,(bC_ BK317.out 3).trans rfl,(bC_ BK317.out 4).trans rfl,(bC_ BK302.out 0).trans rfl,(bC_ BK302.out 1).trans rfl,(bC_ BK301.out 0).trans rfl,(bC_ BK301.out 1).trans rfl,(bC_ BK301.out 2).trans rfl,(bC_ BK301.out 3).trans rfl,(bC_ BK301.out 4).trans rfl⟩ (fun hHeld => ?_)
       clear hK K
       refine norm_ (a':=?_) ?_ ?_
       rotate_left
       ·show Act.put _ (some 66) _ = _
        simp only [Act.put,List.setIfInBounds_toArray,List.set_cons_zero,List.set_cons_succ,i64_w,i32_w]
        rfl
       refine pure_ (i:=27) (N:=some 67) (v:=?_) (a':=?_) #[true,true,true,true,true,true,true,true,true,true,true,true,true,true,true,true,true,true,true,true,true,true,true,true,true,true,true,true,false,false,false,false] rfl rfl (any_of HT_.out (by kernel_rfl)) (fun _ _ _ h => h) (Or.inl ⟨by rfl,?_⟩) ?_ ?_
       rotate_left
       ·intro w'
        go_simp
        with_reducible rfl
       rotate_left
       ·simp only [Act.put,List.setIfInBounds_toArray,List.set_cons_zero,List.set_cons_succ,i64_w,i32_w]
        rfl
       refine pure_ (i:=28) (N:=some 68) (v:=?_) (a':=?_) #[true,true,true,true,true,true,true,true,true,true,true,true,true,true,true,true,true,true,true,true,true,true,true,true,true,true,true,true,true,false,false,false] rfl rfl (any_of HT_.out (by kernel_rfl)) (fun _ _ _ h => h) (Or.inl ⟨by rfl,?_⟩) ?_ ?_
       rotate_left
       ·intro w'
        go_simp
        with_reducible rfl
       rotate_left
       ·simp only [Act.put,List.setIfInBounds_toArray,List.set_cons_zero,List.set_cons_succ,i64_w,i32_w]
        rfl
       refine one_ (i:=29) (N:=some 69) #[true,true,true,true,true,true,true,true,true,true,true,true,true,true,true,true,true,true,true,true,true,true,true,true,true,true,true,true,true,true,false,false] rfl rfl (one_of HT_.out (by kernel_rfl)) (by decide) (fun K hK => ?_)
       refine goes_ Tryd.func18 (by kernel_rfl) rfl #[] (by rfl) rfl rfl (by (try simp only [List.map_toArray,List.map_cons,List.map_nil]);first|done|rfl|(simp only [List.length_drop,List.length_take];rfl)) ?_
       with_reducible refine (trestlelaw12_works.calls k  t325 _ ?side1 A16.out).mono ?_
       (case side1 => exact GV_below HG.out (by repeat (first|(with_reducible first|exact HB.out|apply eA_|apply eN_|apply eD_|refine eS_ ?_ GE301.out|refine eS_ ?_ GE302.out|refine eS_ ?_ GE317.out)|exact HB.out)))
       rintro e w50 ⟨rfl,hb⟩
       refine ⟨_,rfl,?_⟩
       have n0_:=A0_.mk (Kd.R_below (by (with_reducible repeat (first|apply Kd.R_alloc|apply Kd.R_drewN|apply Kd.R_drew));exact HO309.out) hb)
       have n1_:=A0_.mk (Kd.R_below (by (with_reducible repeat (first|apply Kd.R_alloc|apply Kd.R_drewN|apply Kd.R_drew));exact HO312.out) hb)
       have n2_:=A0_.mk (Kd.S_below (by (with_reducible repeat (first|apply Kd.S_alloc|apply Kd.S_drewN|apply Kd.S_drew));exact HO315.out) hb)
       have n3_:=A0_.mk (blk_below (g:=gb301) (o:=.cells #[.int .i64 a0_0,.slice A0_1 l0_1.length c0_1,.slice A0_2 l0_2.length c0_2,.slice A0_3 l0_3.length c0_3,.int .i64 a0_4] 28 (0,0)) (by (with_reducible repeat (first|refine bN_ ?_ _|refine bD_ ?_|refine bA_ ?_ _));exact BK301.out) hb)
       have n4_:=A0_.mk (blk_below (g:=gb302) (o:=.cells #[.int .i64 a1_0,.int .i64 a1_1] 30 (0,0)) (by (with_reducible repeat (first|refine bN_ ?_ _|refine bD_ ?_|refine bA_ ?_ _));exact BK302.out) hb)
       have n5_:=A0_.mk (blk_below (g:=gb317) (o:=.cells #[.int .i64 a0_0,.slice Ao31 y307.length co31,.slice Ao30 t310.length co30,.slice Ao29 t313.length co29,.int .i64 t316] 28 (0,0)) (by (with_reducible repeat (first|refine bN_ ?_ _|refine bD_ ?_|refine bA_ ?_ _));exact BK317.out) hb)
       have n6_:=A0_.mk (below_step (by repeat (first|(with_reducible first|exact HB.out|apply eA_|apply eN_|apply eD_|refine eS_ ?_ GE301.out|refine eS_ ?_ GE302.out|refine eS_ ?_ GE317.out)|exact HB.out)) hb)
       clear HO309
       clear HO312
       clear HO315
       clear BK301
       clear BK302
       clear BK317
       clear HB
       have HO309:=n0_
       have HO312:=n1_
       have HO315:=n2_
       have BK301:=n3_
       have BK302:=n4_
       have BK317:=n5_
       have HB:=n6_
       clear n0_ n1_ n2_ n3_ n4_ n5_ n6_
       (try clear hb)
       (try clear hb2)
       (try clear hk)
       (try clear hi)
       refine hK.out _ _ ⟨(bC_ BK317.out 0).trans rfl,(bC_ BK317.out 1).trans rfl,(bC_ BK317.out 2).trans rfl,(bC_ BK317.out 3).trans rfl,(bC_ BK317.out 4).trans rfl,(bC_ BK302.out 0).trans rfl,(bC_ BK302.out 1).trans rfl,(bC_ BK301.out 0).trans rfl,(bC_ BK301.out 1).trans rfl,(bC_ BK301.out 2).trans rfl,(bC_ BK301.out 3).trans rfl,(bC_ BK301.out 4).trans rfl⟩ (fun hHeld => ?_)
       clear hK K
       refine norm_ (a':=?_) ?_ ?_
       rotate_left
       ·show Act.put _ (some 69) _ = _
        simp only [Act.put,List.setIfInBounds_toArray,List.set_cons_zero,List.set_cons_succ,i64_w,i32_w]
        rfl
       refine pure_ (i:=30) (N:=some 70) (v:=?_) (a':=?_) #[true,true,true,true,true,true,true,true,true,true,true,true,true,true,true,true,true,true,true,true,true,true,true,true,true,true,true,true,true,true,true,false] rfl rfl (any_of HT_.out (by kernel_rfl)) (fun _ _ _ h => h) (Or.inl ⟨by rfl,?_⟩) ?_ ?_
       rotate_left
       ·intro w'
        go_simp
        with_reducible rfl
       rotate_left
       ·simp only [Act.put,List.setIfInBounds_toArray,List.set_cons_zero,List.set_cons_succ,i64_w,i32_w]
        rfl
       refine pure_ (i:=31) (N:=some 4) (v:=?_) (a':=?_) #[true,true,true,true,true,true,true,true,true,true,true,true,true,true,true,true,true,true,true,true,true,true,true,true,true,true,true,true,true,true,true,true] rfl rfl (any_of HT_.out (by kernel_rfl)) (fun _ _ _ h => h) (Or.inl ⟨by rfl,?_⟩) ?_ ?_
       rotate_left
       ·intro w'
        go_simp
        with_reducible rfl
       rotate_left
       ·simp only [Act.put,List.setIfInBounds_toArray,List.set_cons_zero,List.set_cons_succ,i64_w,i32_w]
        rfl
       refine done_ (done_of HT_.out (by kernel_rfl)) ?_
       try go_wp2
       go_ret
       exact ⟨by first|rfl|(simp [errW_none,errW_some] <;> rfl)|(simp [*,errW_none,errW_some] <;> rfl),by repeat (first|(with_reducible first|exact HB.out|apply eA_|apply eN_|apply eD_|refine eS_ ?_ GE301.out|refine eS_ ?_ GE302.out|refine eS_ ?_ GE317.out)|exact HB.out)⟩
      ·replace c15:=Bool.eq_false_iff.mpr c15
       subst c15
       have H1 : (none) = some r:=by rw [if_neg (show ¬ (false = true) by decide)] at H;exact H
       clear H
       have H:=H1
       clear H1
       exact absurd H (by simp)
     ·rw [if_neg c13] at H
      have c13b0 : (t322 == t323) = false:=beq_eq_false_iff_ne.mpr c13
      have c13b1 : (t322 != t323) = true:=bne_iff_ne.mpr c13
      exact absurd H (by simp)
    ·rw [if_neg c10] at H
     have c10b0 : (t319 == t321) = false:=beq_eq_false_iff_ne.mpr c10
     have c10b1 : (t319 != t321) = true:=bne_iff_ne.mpr c10
     exact absurd H (by simp)
   ·rw [if_neg c9] at H
    have c9b0 : (t318.toList == t320.toList) = false:=beq_eq_false_iff_ne.mpr c9
    have c9b1 : (t318.toList != t320.toList) = true:=bne_iff_ne.mpr c9
    exact absurd H (by simp)
  ·rw [if_neg c5] at H
   exact absurd H (by simp)
 ·replace c4:=Bool.eq_false_iff.mpr c4
  subst c4
  have H1 : (none) = some r:=by rw [if_neg (show ¬ (false = true) by decide)] at H;exact H
  clear H
  have H:=H1
  clear H1
  exact absurd H (by simp)
end Go.Proofs.YtojepjkpnponoaaDoor.Stim

