import Derived.Test.YtojepjkpnponoaaDoorFStim0
import Derived.Test.YtojepjkpnponoaaDoorFStim1
import Derived.Test.YtojepjkpnponoaaDoorFStim6
import Derived.Test.YtojepjkpnponoaaDoorFStim9
import Derived.Test.YtojepjkpnponoaaDoorFStim10
import Derived.Test.YtojepjkpnponoaaDoorFGV
import Derived.Test.YtojepjkpnponoaaDoorFGAll
import Derived.Test.YtojepjkpnponoaaDoorFGPrint
import Derived.Test.YtojepjkpnponoaaDoorFGRead
namespace Go.Proofs.YtojepjkpnponoaaDoor.Stim
open Go.RowKit Go.Proofs.YtojepjkpnponoaaDoorW.PrintWords Go.Proofs.YtojepjkpnponoaaDoorW.PrintLast Go.Proofs.YtojepjkpnponoaaDoorW.PrintMore
attribute [local go_sem] max2_int min2_int max_two min_two max_three min_three max_four min_four
set_option linter.unusedVariables false
set_option linter.unusedSimpArgs false
attribute [local go_sem high] eqA40
mutual
def trestlelaw12_StimForth.l0 : Nat → ByteArray → ByteArray → ByteArray → Int → Bool → Int → Int → Int → Int → List (S83) → List Bool → List (List Bool) → Int → Option (Bool)
 |0,_,_,_,_,_,_,_,_,_,_,_,_,_ => none
 |k + 1,x0,x1,x9,x10,x11,x12,x357000,x357001,x372000,x372001,x372002,x372003,x372004 => if x12 < (x0.size : Int) then (if x11 = true then (trestlelaw12_StimForth.l0 k x0 x1 x9 x10 true (wrap64 (x12 + 1)) x357000 x357001 x372000 x372001 x372002 x372003 x372004) else (if 0 ≤ x12 then (trestlelaw12_StimForth.l0 k x0 x1 x9 x10 ((bt x0 x12) == 120) (wrap64 (x12 + 1)) x357000 x357001 x372000 x372001 x372002 x372003 x372004) else (none))) else ((stim_Check.f k x372000 x372001 x372002 x372003 x372004 x357000 x357001).bind fun t375 => (if t375 = 0 then (if x10 = 0 then (if x11 = true then (trestlelaw12_StimForth.j1 k x0 x1 ((x9.size : Int) != (x0.size : Int)) x357000 x357001 x372000 x372001 x372002 x372003 x372004) else (if x9.toList = x0.toList then (trestlelaw12_StimForth.j1 k x0 x1 ((x9.size : Int) != (x0.size : Int)) x357000 x357001 x372000 x372001 x372002 x372003 x372004) else (trestlelaw12_StimForth.j1 k x0 x1 true x357000 x357001 x372000 x372001 x372002 x372003 x372004))) else (trestlelaw12_StimForth.j1 k x0 x1 true x357000 x357001 x372000 x372001 x372002 x372003 x372004)) else (trestlelaw12_StimForth.j1 k x0 x1 true x357000 x357001 x372000 x372001 x372002 x372003 x372004)))
def trestlelaw12_StimForth.j1 : Nat → ByteArray → ByteArray → Bool → Int → Int → Int → List (S83) → List Bool → List (List Bool) → Int → Option (Bool)
 |0,_,_,_,_,_,_,_,_,_,_ => none
 |k + 1,x0,x1,x100,x357000,x357001,x372000,x372001,x372002,x372003,x372004 => if x100 = true then (none) else ((stim_Read.f x1 x357000 x357001).bind fun bt376 => (if x0.size + x1.size ≤ 9223372036854775807 then ((stim_All.f (x0 ++ x1) x357000 x357001).bind fun bt391 => (if (!(bt376.2.2.2.2.2.1 == 0) || (!(bt376.2.2.2.2.2.2 == 0))) = true then (trestlelaw12_StimForth.j2 k bt391.1 true x372000 x372001 x372002 x372003 x372004 bt376.1 bt376.2.1 bt376.2.2.1 bt376.2.2.2.1 bt376.2.2.2.2.1 bt391.2.1 bt391.2.2) else (trestlelaw12_StimForth.j2 k bt391.1 (decide ((wrap64 ((x0.size : Int) + (x1.size : Int))) > 262144)) x372000 x372001 x372002 x372003 x372004 bt376.1 bt376.2.1 bt376.2.2.1 bt376.2.2.2.1 bt376.2.2.2.2.1 bt391.2.1 bt391.2.2))) else (none)))
def trestlelaw12_StimForth.j2 : Nat → List (S28) → Bool → Int → List (S83) → List Bool → List (List Bool) → Int → Int → List (S83) → List Bool → List (List Bool) → Int → Int → Int → Option (Bool)
 |0,_,_,_,_,_,_,_,_,_,_,_,_,_,_ => none
 |k + 1,x15,x131,x372000,x372001,x372002,x372003,x372004,x390000,x390001,x390002,x390003,x390004,x397000,x397001 => if x131 = true then (some true) else (if (x397000 == 0 && (x397001 == 0)) = true then (if (x15.length : Int) = 2 then (if 0 < (x15.length : Int) then ((trestlelaw12_same.f k ((rd_T28 x15 0).f0) ((rd_T28 x15 0).f1) ((rd_T28 x15 0).f2.f0) ((rd_T28 x15 0).f2.f1) ((rd_T28 x15 0).f2.f2) x372000 x372001 x372002 x372003 x372004).bind fun t398 => (if t398 = true then (if 1 < (x15.length : Int) then ((trestlelaw12_same.f k ((rd_T28 x15 1).f0) ((rd_T28 x15 1).f1) ((rd_T28 x15 1).f2.f0) ((rd_T28 x15 1).f2.f1) ((rd_T28 x15 1).f2.f2) x390000 x390001 x390002 x390003 x390004).bind fun t400 => (some t400)) else (none)) else (none))) else (none)) else (none)) else (none))
end
def trestlelaw12_StimForth.f (k : Nat) (a0 : ByteArray) (a1 : ByteArray) (a2_0 : Int) (a2_1 : Int) : Option (Bool):=(trestlelaw12_works.f k).bind fun t357 => (if t357 = true then ((stim_Read.f a0 a2_0 a2_1).bind fun bt358 => (if (!(bt358.2.2.2.2.2.1 == 0) || (!(bt358.2.2.2.2.2.2 == 0))) = true then (if bt358.2.2.2.2.2.1 ≥ 0 then (if bt358.2.2.2.2.2.1 ≤ (a0.size : Int) then (if bt358.1 = 0 then (some ((bt358.2.1.length : Int) == 0)) else (none)) else (none)) else (none)) else ((stim_Print.f bt358.1 bt358.2.1 bt358.2.2.1 bt358.2.2.2.1 bt358.2.2.2.2.1 a2_0 a2_1).bind fun bt373 => (trestlelaw12_StimForth.l0 k a0 a1 bt373.1 bt373.2 false 0 a2_0 a2_1 bt358.1 bt358.2.1 bt358.2.2.1 bt358.2.2.2.1 bt358.2.2.2.2.1)))) else (none))
def trestlelaw12_StimForth.T18 : Bool × List (List Nat × List Nat):=(true,[([],[]),([],[]),([0,1],[0,1]),([2],[2]),([3],[3]),([4,3],[3,4]),([5,3],[3,5]),([3,6],[3,6]),([7,3],[7]),([8],[8]),([9,8],[8,9]),([10,8],[8,10]),([8],[8]),([11,12,8,8],[8,11,12]),([8,13],[8,13]),([14,13],[14]),([15],[15]),([16,15],[15,16]),([17,15],[15,17]),([15],[15]),([18,19,15,15],[15,18,19]),([15,20],[15,20]),([21,20,0,1,2,3,4,5,6,7,8,9,10,11,12,13,14,15,16,17,18,19,20,21],[21])])
def trestlelaw12_StimForth.B18 : List Nat:=[0,0,3,7,15,31,63,127,255,511,1023,2047,511,8191,16383,32767,65535,131071,262143,65535,1048575,2097151,4194303]
theorem trestlelaw12_StimForth.tab18 : rtab .any (opsOf Tryd.f5 18) = trestlelaw12_StimForth.T18:=by kernel_rfl
theorem trestlelaw12_StimForth.bits18 : waitsOk trestlelaw12_StimForth.T18.2 trestlelaw12_StimForth.B18 = true:=by kernel_rfl
set_option maxHeartbeats 8000000 in
set_option maxRecDepth 100000 in
theorem trestlelaw12_StimForth.calls (k : Nat) (a0 : ByteArray) (a1 : ByteArray) (a2_0 : Int) (a2_1 : Int) (r : Bool) (w : World) (hG : GV w) (h : trestlelaw12_StimForth.f k a0 a1 a2_0 a2_1 = some r) :
  Calls Tryd.prog 5 #[.string a0,.string a1,.agg #[.int .i64 a2_0,.int .i64 a2_1]] w fun e w' => e = .returned (.bool r) ∧ Below w.heap.size w w':=by
 have hu30:=Tryd.underlying30
 have hu28:=Tryd.underlying28
 have hu40:=Tryd.underlying40
 have HG:=A0_.mk hG
 clear hG
 have HB:=A0_.mk (Below.refl w.heap.size w)
 have H : ((trestlelaw12_works.f k).bind fun t357 => (if t357 = true then ((stim_Read.f a0 a2_0 a2_1).bind fun bt358 => (if (!(bt358.2.2.2.2.2.1 == 0) || (!(bt358.2.2.2.2.2.2 == 0))) = true then (if bt358.2.2.2.2.2.1 ≥ 0 then (if bt358.2.2.2.2.2.1 ≤ (a0.size : Int) then (if bt358.1 = 0 then (some ((bt358.2.1.length : Int) == 0)) else (none)) else (none)) else (none)) else ((stim_Print.f bt358.1 bt358.2.1 bt358.2.2.1 bt358.2.2.2.1 bt358.2.2.2.2.1 a2_0 a2_1).bind fun bt373 => (trestlelaw12_StimForth.l0 k a0 a1 bt373.1 bt373.2 false 0 a2_0 a2_1 bt358.1 bt358.2.1 bt358.2.2.1 bt358.2.2.2.1 bt358.2.2.2.2.1)))) else (none))) = some r:=h
 clear h
 replace H:=Option.bind_eq_some_iff.mp H
 obtain ⟨t357,A40,H⟩:=H
 replace H : (if t357 = true then ((stim_Read.f a0 a2_0 a2_1).bind fun bt358 => (if (!(bt358.2.2.2.2.2.1 == 0) || (!(bt358.2.2.2.2.2.2 == 0))) = true then (if bt358.2.2.2.2.2.1 ≥ 0 then (if bt358.2.2.2.2.2.1 ≤ (a0.size : Int) then (if bt358.1 = 0 then (some ((bt358.2.1.length : Int) == 0)) else (none)) else (none)) else (none)) else ((stim_Print.f bt358.1 bt358.2.1 bt358.2.2.1 bt358.2.2.2.1 bt358.2.2.2.2.1 a2_0 a2_1).bind fun bt373 => (trestlelaw12_StimForth.l0 k a0 a1 bt373.1 bt373.2 false 0 a2_0 a2_1 bt358.1 bt358.2.1 bt358.2.2.1 bt358.2.2.2.1 bt358.2.2.2.2.1)))) else (none)) = some r:=H
 have A4:=A0_.mk A40
 clear A40
 by_cases c5 : t357 = true
 ·subst c5
  have H1 : ((stim_Read.f a0 a2_0 a2_1).bind fun bt358 => (if (!(bt358.2.2.2.2.2.1 == 0) || (!(bt358.2.2.2.2.2.2 == 0))) = true then (if bt358.2.2.2.2.2.1 ≥ 0 then (if bt358.2.2.2.2.2.1 ≤ (a0.size : Int) then (if bt358.1 = 0 then (some ((bt358.2.1.length : Int) == 0)) else (none)) else (none)) else (none)) else ((stim_Print.f bt358.1 bt358.2.1 bt358.2.2.1 bt358.2.2.2.1 bt358.2.2.2.2.1 a2_0 a2_1).bind fun bt373 => (trestlelaw12_StimForth.l0 k a0 a1 bt373.1 bt373.2 false 0 a2_0 a2_1 bt358.1 bt358.2.1 bt358.2.2.1 bt358.2.2.2.1 bt358.2.2.2.2.1)))) = some r:=by rw [if_pos rfl] at H;exact H
  clear H
  have H:=H1
  clear H1
  replace H:=Option.bind_eq_some_iff.mp H
  obtain ⟨⟨t358,t359,t362,t365,t368,t369,t370⟩,A60,H⟩:=H
  replace H : (if (!(t369 == 0) || (!(t370 == 0))) = true then (if t369 ≥ 0 then (if t369 ≤ (a0.size : Int) then (if t358 = 0 then (some ((t359.length : Int) == 0)) else (none)) else (none)) else (none)) else ((stim_Print.f t358 t359 t362 t365 t368 a2_0 a2_1).bind fun bt373 => (trestlelaw12_StimForth.l0 k a0 a1 bt373.1 bt373.2 false 0 a2_0 a2_1 t358 t359 t362 t365 t368))) = some r:=H
  have A6:=A0_.mk A60
  clear A60
  by_cases c7 : (!(t369 == 0) || (!(t370 == 0))) = true
  ·rw [if_pos c7] at H
   have c7b0 : (!(t369 == 0) || (!(t370 == 0))) = true:=c7
   clear c7
   by_cases c8 : t369 ≥ 0
   ·rw [if_pos c8] at H
    have c8b0 : decide (0 ≤ t369) = true:=decide_eq_true c8
    clear c8
    by_cases c9 : t369 ≤ (a0.size : Int)
    ·rw [if_pos c9] at H
     have c9b0 : decide (t369 ≤ (a0.size : Int)) = true:=decide_eq_true c9
     clear c9
     by_cases c10 : t358 = 0
     ·rw [if_pos c10] at H
      have c10b0 : (t358 == 0) = true:=beq_iff_eq.mpr c10
      have c10b1 : (t358 != 0) = false:=bne_eq_false_iff_eq.mpr c10
      clear c10
      obtain rfl:=Option.some.inj H
      go_enter Tryd.func5,Tryd.ntmps5
      go_wp2_with (first|((with_reducible refine gate_dst (N:=5) rfl ?_);(try (refine gate_guard (by rfl) ?_;dsimp only));refine box_event ?hg (N:=5) ?hd (cs:=#[.int .i64 a2_0,.int .i64 a2_1]) (t:=30) ?hr ?_;(case hd => rfl);(case hg => rfl);(case hr => first|(go_simp;done)|(go_simp;rfl));intro gb356 hg w11 hbox hb;have n0_:=A0_.mk (below_step (by repeat (first|(with_reducible first|exact HB.out|apply eA_|apply eN_|apply eD_)|exact HB.out)) hb);have n1_:=A0_.mk (hbox);have n2_:=A0_.mk ((by rw [hg];exact (below_size (by repeat (first|(with_reducible first|exact HB.out|apply eA_|apply eN_|apply eD_)|exact HB.out))) : w.heap.size ≤ gb356));have n3_:=A0_.mk ((by rw [hg];exact (below_size (by repeat (first|(with_reducible first|exact HB.out|apply eA_|apply eN_|apply eD_)|exact HB.out))) : w.heap.size ≤ gb356));clear HB;have HB:=n0_;have BK356:=n1_;have GW356:=n2_;have GE356:=n3_;clear n0_ n1_ n2_ n3_;clear hb hbox hg)|((with_reducible refine gate_callee (f:=18) rfl ?_);refine goesL_ (some 17) rfl rfl Tryd.func18 (by kernel_rfl) rfl #[] rfl (by (try simp only [List.map_toArray,List.map_cons,List.map_nil]);first|done|rfl|(simp only [List.length_drop,List.length_take];rfl)) ?_;(with_reducible refine (trestlelaw12_works.calls k  true _ ?side1 A4.out).mono ?_);(case side1 => exact GV_below HG.out (by repeat (first|(with_reducible first|exact HB.out|apply eA_|apply eN_|apply eD_|refine eS_ ?_ GE356.out)|exact HB.out)));rintro e w12 ⟨rfl,hb⟩;refine ⟨_,rfl,?_⟩;have n0_:=A0_.mk (blk_below (g:=gb356) (o:=.cells #[.int .i64 a2_0,.int .i64 a2_1] 30 (0,0)) (by (with_reducible repeat (first|refine bN_ ?_ _|refine bD_ ?_|refine bA_ ?_ _));exact BK356.out) hb);have n1_:=A0_.mk (below_step (by repeat (first|(with_reducible first|exact HB.out|apply eA_|apply eN_|apply eD_|refine eS_ ?_ GE356.out)|exact HB.out)) hb);clear BK356;clear HB;have BK356:=n0_;have HB:=n1_;clear n0_ n1_;(try clear hb);(try clear hb2);(try clear hk);(try clear hi);have hcz13_0 : w12.cell? ⟨gb356,0,none⟩ = some (.int .i64 a2_0):=(bC_ BK356.out 0).trans rfl;have hcz13_1 : w12.cell? ⟨gb356,1,none⟩ = some (.int .i64 a2_1):=(bC_ BK356.out 1).trans rfl;have hfz13_0:=bF_ BK356.out 0;have hfz13_1:=bF_ BK356.out 1)|((with_reducible refine gate_callee (f:=19) rfl ?_);refine goesL_ (some 25) rfl rfl Tryd.func19 (by kernel_rfl) rfl #[.string a0,.int .i64 a2_0,.int .i64 a2_1] rfl (by (try simp only [List.map_toArray,List.map_cons,List.map_nil]);first|done|rfl|(simp only [List.length_drop,List.length_take];rfl)) ?_;(with_reducible refine (stim_Read.calls a0 a2_0 a2_1 t358 t359 t362 t365 t368 t369 t370 _ ?side1 A6.out).mono ?_);(case side1 => exact GV_below HG.out (by repeat (first|(with_reducible first|exact HB.out|apply eA_|apply eN_|apply eD_|refine eS_ ?_ GE356.out)|exact HB.out)));rintro e w14 ⟨v360,v363,v366,rfl,ho0,ho1,ho2,hb⟩;refine ⟨_,rfl,?_⟩;have n0_:=A0_.mk (Kd.R_lower ho0 (below_size (by repeat (first|(with_reducible first|exact HB.out|apply eA_|apply eN_|apply eD_|refine eS_ ?_ GE356.out)|exact HB.out))));have n1_:=A0_.mk (Kd.R_lower ho1 (below_size (by repeat (first|(with_reducible first|exact HB.out|apply eA_|apply eN_|apply eD_|refine eS_ ?_ GE356.out)|exact HB.out))));have n2_:=A0_.mk (Kd.S_lower ho2 (below_size (by repeat (first|(with_reducible first|exact HB.out|apply eA_|apply eN_|apply eD_|refine eS_ ?_ GE356.out)|exact HB.out))));have n3_:=A0_.mk (blk_below (g:=gb356) (o:=.cells #[.int .i64 a2_0,.int .i64 a2_1] 30 (0,0)) (by (with_reducible repeat (first|refine bN_ ?_ _|refine bD_ ?_|refine bA_ ?_ _));exact BK356.out) hb);have n4_:=A0_.mk (below_step (by repeat (first|(with_reducible first|exact HB.out|apply eA_|apply eN_|apply eD_|refine eS_ ?_ GE356.out)|exact HB.out)) hb);clear BK356;clear HB;have HO361:=n0_;have HO364:=n1_;have HO367:=n2_;have BK356:=n3_;have HB:=n4_;clear n0_ n1_ n2_ n3_ n4_;(try clear hb);(try clear hb2);(try clear hk);(try clear hi);(try clear ho0);(try clear ho1);(try clear ho2))|((with_reducible refine gate_dst (N:=7) rfl ?_);(try (refine gate_guard (by rfl) ?_;dsimp only));refine box_event ?hg (N:=7) ?hd (cs:=#[.int .i64 0,.slice none 0 0,.slice none 0 0,.slice none 0 0,.int .i64 0]) (t:=28) ?hr ?_;(case hd => rfl);(case hg => rfl);(case hr => first|(go_simp;done)|(go_simp;rfl));intro gb371 hg w15 hbox hb;have n0_:=A0_.mk (Kd.R_below (by (with_reducible repeat (first|apply Kd.R_alloc|apply Kd.R_drewN|apply Kd.R_drew));exact HO361.out) hb);have n1_:=A0_.mk (Kd.R_below (by (with_reducible repeat (first|apply Kd.R_alloc|apply Kd.R_drewN|apply Kd.R_drew));exact HO364.out) hb);have n2_:=A0_.mk (Kd.S_below (by (with_reducible repeat (first|apply Kd.S_alloc|apply Kd.S_drewN|apply Kd.S_drew));exact HO367.out) hb);have n3_:=A0_.mk (blk_below (g:=gb356) (o:=.cells #[.int .i64 a2_0,.int .i64 a2_1] 30 (0,0)) (by (with_reducible repeat (first|refine bN_ ?_ _|refine bD_ ?_|refine bA_ ?_ _));exact BK356.out) hb);have n4_:=A0_.mk (below_step (by repeat (first|(with_reducible first|exact HB.out|apply eA_|apply eN_|apply eD_|refine eS_ ?_ GE356.out)|exact HB.out)) hb);have n5_:=A0_.mk (hbox);have n6_:=A0_.mk ((by rw [hg];exact (below_size (by repeat (first|(with_reducible first|exact HB.out|apply eA_|apply eN_|apply eD_|refine eS_ ?_ GE356.out)|exact HB.out))) : w.heap.size ≤ gb371));have n7_:=A0_.mk ((by rw [hg];exact (below_size (by repeat (first|(with_reducible first|exact HB.out|apply eA_|apply eN_|apply eD_|refine eS_ ?_ GE356.out)|exact HB.out))) : w.heap.size ≤ gb371));have n8_:=A0_.mk ((by rw [hg];exact Nat.ne_of_lt (blk_lt (g:=gb356) (o:=.cells #[.int .i64 a2_0,.int .i64 a2_1] 30 (0,0)) (by (with_reducible repeat (first|refine bN_ ?_ _|refine bD_ ?_|refine bA_ ?_ _));exact BK356.out)) : gb356 ≠ gb371));have n9_:=A0_.mk ((by rw [hg];exact Nat.ne_of_gt (blk_lt (g:=gb356) (o:=.cells #[.int .i64 a2_0,.int .i64 a2_1] 30 (0,0)) (by (with_reducible repeat (first|refine bN_ ?_ _|refine bD_ ?_|refine bA_ ?_ _));exact BK356.out)) : gb371 ≠ gb356));clear HO361;clear HO364;clear HO367;clear BK356;clear HB;have HO361:=n0_;have HO364:=n1_;have HO367:=n2_;have BK356:=n3_;have HB:=n4_;have BK371:=n5_;have GW371:=n6_;have GE371:=n7_;have NB356_371:=n8_;have NB371_356:=n9_;clear n0_ n1_ n2_ n3_ n4_ n5_ n6_ n7_ n8_ n9_;clear hb hbox hg)|((with_reducible refine gate_dst (N:=8) rfl ?_);(try (refine gate_guard (by rfl) ?_;dsimp only));refine box_event ?hg (N:=8) ?hd (cs:=#[.int .i64 0,.int .i64 0]) (t:=40) ?hr ?_;(case hd => rfl);(case hg => rfl);(case hr => first|(go_simp;done)|(go_simp;rfl));intro gb372 hg w16 hbox hb;have n0_:=A0_.mk (Kd.R_below (by (with_reducible repeat (first|apply Kd.R_alloc|apply Kd.R_drewN|apply Kd.R_drew));exact HO361.out) hb);have n1_:=A0_.mk (Kd.R_below (by (with_reducible repeat (first|apply Kd.R_alloc|apply Kd.R_drewN|apply Kd.R_drew));exact HO364.out) hb);have n2_:=A0_.mk (Kd.S_below (by (with_reducible repeat (first|apply Kd.S_alloc|apply Kd.S_drewN|apply Kd.S_drew));exact HO367.out) hb);have n3_:=A0_.mk (blk_below (g:=gb356) (o:=.cells #[.int .i64 a2_0,.int .i64 a2_1] 30 (0,0)) (by (with_reducible repeat (first|refine bN_ ?_ _|refine bD_ ?_|refine bA_ ?_ _));exact BK356.out) hb);have n4_:=A0_.mk (blk_below (g:=gb371) (o:=.cells #[.int .i64 0,.slice none 0 0,.slice none 0 0,.slice none 0 0,.int .i64 0] 28 (0,0)) (by (with_reducible repeat (first|refine bN_ ?_ _|refine bD_ ?_|refine bA_ ?_ _));exact BK371.out) hb);have n5_:=A0_.mk (below_step (by repeat (first|(with_reducible first|exact HB.out|apply eA_|apply eN_|apply eD_|refine eS_ ?_ GE356.out|refine eS_ ?_ GE371.out)|exact HB.out)) hb);have n6_:=A0_.mk (hbox);have n7_:=A0_.mk ((by rw [hg];exact (below_size (by repeat (first|(with_reducible first|exact HB.out|apply eA_|apply eN_|apply eD_|refine eS_ ?_ GE356.out|refine eS_ ?_ GE371.out)|exact HB.out))) : w.heap.size ≤ gb372));have n8_:=A0_.mk ((by rw [hg];exact (below_size (by repeat (first|(with_reducible first|exact HB.out|apply eA_|apply eN_|apply eD_|refine eS_ ?_ GE356.out|refine eS_ ?_ GE371.out)|exact HB.out))) : w.heap.size ≤ gb372));have n9_:=A0_.mk ((by rw [hg];exact Nat.ne_of_lt (blk_lt (g:=gb356) (o:=.cells #[.int .i64 a2_0,.int .i64 a2_1] 30 (0,0)) (by (with_reducible repeat (first|refine bN_ ?_ _|refine bD_ ?_|refine bA_ ?_ _));exact BK356.out)) : gb356 ≠ gb372));have n10_:=A0_.mk ((by rw [hg];exact Nat.ne_of_gt (blk_lt (g:=gb356) (o:=.cells #[.int .i64 a2_0,.int .i64 a2_1] 30 (0,0)) (by (with_reducible repeat (first|refine bN_ ?_ _|refine bD_ ?_|refine bA_ ?_ _));exact BK356.out)) : gb372 ≠ gb356));have n11_:=A0_.mk ((by rw [hg];exact Nat.ne_of_lt (blk_lt (g:=gb371) (o:=.cells #[.int .i64 0,.slice none 0 0,.slice none 0 0,.slice none 0 0,.int .i64 0] 28 (0,0)) (by (with_reducible repeat (first|refine bN_ ?_ _|refine bD_ ?_|refine bA_ ?_ _));exact BK371.out)) : gb371 ≠ gb372));have n12_:=A0_.mk ((by rw [hg];exact Nat.ne_of_gt (blk_lt (g:=gb371) (o:=.cells #[.int .i64 0,.slice none 0 0,.slice none 0 0,.slice none 0 0,.int .i64 0] 28 (0,0)) (by (with_reducible repeat (first|refine bN_ ?_ _|refine bD_ ?_|refine bA_ ?_ _));exact BK371.out)) : gb372 ≠ gb371));clear HO361;clear HO364;clear HO367;clear BK356;clear BK371;clear HB;have HO361:=n0_;have HO364:=n1_;have HO367:=n2_;have BK356:=n3_;have BK371:=n4_;have HB:=n5_;have BK372:=n6_;have GW372:=n7_;have GE372:=n8_;have NB356_372:=n9_;have NB372_356:=n10_;have NB371_372:=n11_;have NB372_371:=n12_;clear n0_ n1_ n2_ n3_ n4_ n5_ n6_ n7_ n8_ n9_ n10_ n11_ n12_;clear hb hbox hg;have hnb17:=NB371_356.out;have hnc17:=NB356_371.out;have hnb18:=NB371_372.out;have hnc18:=NB372_371.out;have hcz19_0 : w16.cell? ⟨gb371,0,none⟩ = some (.int .i64 0):=(bC_ BK371.out 0).trans rfl;have hcz19_1 : w16.cell? ⟨gb371,1,none⟩ = some (.slice none 0 0):=(bC_ BK371.out 1).trans rfl;have hcz19_2 : w16.cell? ⟨gb371,2,none⟩ = some (.slice none 0 0):=(bC_ BK371.out 2).trans rfl;have hcz19_3 : w16.cell? ⟨gb371,3,none⟩ = some (.slice none 0 0):=(bC_ BK371.out 3).trans rfl;have hcz19_4 : w16.cell? ⟨gb371,4,none⟩ = some (.int .i64 0):=(bC_ BK371.out 4).trans rfl;have hfz19_0:=bF_ BK371.out 0;have hfz19_1:=bF_ BK371.out 1;have hfz19_2:=bF_ BK371.out 2;have hfz19_3:=bF_ BK371.out 3;have hfz19_4:=bF_ BK371.out 4;obtain ⟨Ao20,co20,eo20⟩:=Kd.R_slice HO361.out;subst eo20;obtain ⟨Ao21,co21,eo21⟩:=Kd.R_slice HO364.out;subst eo21;obtain ⟨Ao22,co22,eo22⟩:=Kd.S_slice HO367.out;subst eo22;have hnb23:=NB372_356.out;have hnc23:=NB356_372.out;have hcz24_0 : w16.cell? ⟨gb372,0,none⟩ = some (.int .i64 0):=(bC_ BK372.out 0).trans rfl;have hcz24_1 : w16.cell? ⟨gb372,1,none⟩ = some (.int .i64 0):=(bC_ BK372.out 1).trans rfl;have hfz24_0:=bF_ BK372.out 0;have hfz24_1:=bF_ BK372.out 1))
      go_ret
      exact ⟨by first|rfl|(simp [errW_none,errW_some] <;> rfl)|(simp [*,errW_none,errW_some] <;> rfl),by repeat (first|(with_reducible first|exact HB.out|apply eA_|apply eN_|apply eD_|refine eS_ ?_ GE356.out|refine eS_ ?_ GE371.out|refine eS_ ?_ GE372.out)|exact HB.out)⟩
     ·rw [if_neg c10] at H
      exact absurd H (by simp)
    ·rw [if_neg c9] at H
     exact absurd H (by simp)
   ·rw [if_neg c8] at H
    exact absurd H (by simp)
  ·rw [if_neg c7] at H
   have c7b0 : (!(t369 == 0) || (!(t370 == 0))) = false:=by simpa using c7
   clear c7
   replace H:=Option.bind_eq_some_iff.mp H
   obtain ⟨⟨t373,t374⟩,A250,H⟩:=H
   replace H : (trestlelaw12_StimForth.l0 k a0 a1 t373 t374 false 0 a2_0 a2_1 t358 t359 t362 t365 t368) = some r:=H
   have A25:=A0_.mk A250
   clear A250
   have H':=A0_.mk H
   clear H
   go_enter Tryd.func5,Tryd.ntmps5
   go_wp2_with (first|((with_reducible refine gate_dst (N:=5) rfl ?_);(try (refine gate_guard (by rfl) ?_;dsimp only));refine box_event ?hg (N:=5) ?hd (cs:=#[.int .i64 a2_0,.int .i64 a2_1]) (t:=30) ?hr ?_;(case hd => rfl);(case hg => rfl);(case hr => first|(go_simp;done)|(go_simp;rfl));intro gb356 hg w26 hbox hb;have n0_:=A0_.mk (below_step (by repeat (first|(with_reducible first|exact HB.out|apply eA_|apply eN_|apply eD_)|exact HB.out)) hb);have n1_:=A0_.mk (hbox);have n2_:=A0_.mk ((by rw [hg];exact (below_size (by repeat (first|(with_reducible first|exact HB.out|apply eA_|apply eN_|apply eD_)|exact HB.out))) : w.heap.size ≤ gb356));have n3_:=A0_.mk ((by rw [hg];exact (below_size (by repeat (first|(with_reducible first|exact HB.out|apply eA_|apply eN_|apply eD_)|exact HB.out))) : w.heap.size ≤ gb356));clear HB;have HB:=n0_;have BK356:=n1_;have GW356:=n2_;have GE356:=n3_;clear n0_ n1_ n2_ n3_;clear hb hbox hg)|((with_reducible refine gate_callee (f:=18) rfl ?_);refine goesL_ (some 17) rfl rfl Tryd.func18 (by kernel_rfl) rfl #[] rfl (by (try simp only [List.map_toArray,List.map_cons,List.map_nil]);first|done|rfl|(simp only [List.length_drop,List.length_take];rfl)) ?_;(with_reducible refine (trestlelaw12_works.calls k  true _ ?side1 A4.out).mono ?_);(case side1 => exact GV_below HG.out (by repeat (first|(with_reducible first|exact HB.out|apply eA_|apply eN_|apply eD_|refine eS_ ?_ GE356.out)|exact HB.out)));rintro e w27 ⟨rfl,hb⟩;refine ⟨_,rfl,?_⟩;have n0_:=A0_.mk (blk_below (g:=gb356) (o:=.cells #[.int .i64 a2_0,.int .i64 a2_1] 30 (0,0)) (by (with_reducible repeat (first|refine bN_ ?_ _|refine bD_ ?_|refine bA_ ?_ _));exact BK356.out) hb);have n1_:=A0_.mk (below_step (by repeat (first|(with_reducible first|exact HB.out|apply eA_|apply eN_|apply eD_|refine eS_ ?_ GE356.out)|exact HB.out)) hb);clear BK356;clear HB;have BK356:=n0_;have HB:=n1_;clear n0_ n1_;(try clear hb);(try clear hb2);(try clear hk);(try clear hi);have hcz28_0 : w27.cell? ⟨gb356,0,none⟩ = some (.int .i64 a2_0):=(bC_ BK356.out 0).trans rfl;have hcz28_1 : w27.cell? ⟨gb356,1,none⟩ = some (.int .i64 a2_1):=(bC_ BK356.out 1).trans rfl;have hfz28_0:=bF_ BK356.out 0;have hfz28_1:=bF_ BK356.out 1)|((with_reducible refine gate_callee (f:=19) rfl ?_);refine goesL_ (some 25) rfl rfl Tryd.func19 (by kernel_rfl) rfl #[.string a0,.int .i64 a2_0,.int .i64 a2_1] rfl (by (try simp only [List.map_toArray,List.map_cons,List.map_nil]);first|done|rfl|(simp only [List.length_drop,List.length_take];rfl)) ?_;(with_reducible refine (stim_Read.calls a0 a2_0 a2_1 t358 t359 t362 t365 t368 t369 t370 _ ?side1 A6.out).mono ?_);(case side1 => exact GV_below HG.out (by repeat (first|(with_reducible first|exact HB.out|apply eA_|apply eN_|apply eD_|refine eS_ ?_ GE356.out)|exact HB.out)));rintro e w29 ⟨v360,v363,v366,rfl,ho0,ho1,ho2,hb⟩;refine ⟨_,rfl,?_⟩;have n0_:=A0_.mk (Kd.R_lower ho0 (below_size (by repeat (first|(with_reducible first|exact HB.out|apply eA_|apply eN_|apply eD_|refine eS_ ?_ GE356.out)|exact HB.out))));have n1_:=A0_.mk (Kd.R_lower ho1 (below_size (by repeat (first|(with_reducible first|exact HB.out|apply eA_|apply eN_|apply eD_|refine eS_ ?_ GE356.out)|exact HB.out))));have n2_:=A0_.mk (Kd.S_lower ho2 (below_size (by repeat (first|(with_reducible first|exact HB.out|apply eA_|apply eN_|apply eD_|refine eS_ ?_ GE356.out)|exact HB.out))));have n3_:=A0_.mk (blk_below (g:=gb356) (o:=.cells #[.int .i64 a2_0,.int .i64 a2_1] 30 (0,0)) (by (with_reducible repeat (first|refine bN_ ?_ _|refine bD_ ?_|refine bA_ ?_ _));exact BK356.out) hb);have n4_:=A0_.mk (below_step (by repeat (first|(with_reducible first|exact HB.out|apply eA_|apply eN_|apply eD_|refine eS_ ?_ GE356.out)|exact HB.out)) hb);clear BK356;clear HB;have HO361:=n0_;have HO364:=n1_;have HO367:=n2_;have BK356:=n3_;have HB:=n4_;clear n0_ n1_ n2_ n3_ n4_;(try clear hb);(try clear hb2);(try clear hk);(try clear hi);(try clear ho0);(try clear ho1);(try clear ho2))|((with_reducible refine gate_dst (N:=7) rfl ?_);(try (refine gate_guard (by rfl) ?_;dsimp only));refine box_event ?hg (N:=7) ?hd (cs:=#[.int .i64 0,.slice none 0 0,.slice none 0 0,.slice none 0 0,.int .i64 0]) (t:=28) ?hr ?_;(case hd => rfl);(case hg => rfl);(case hr => first|(go_simp;done)|(go_simp;rfl));intro gb371 hg w30 hbox hb;have n0_:=A0_.mk (Kd.R_below (by (with_reducible repeat (first|apply Kd.R_alloc|apply Kd.R_drewN|apply Kd.R_drew));exact HO361.out) hb);have n1_:=A0_.mk (Kd.R_below (by (with_reducible repeat (first|apply Kd.R_alloc|apply Kd.R_drewN|apply Kd.R_drew));exact HO364.out) hb);have n2_:=A0_.mk (Kd.S_below (by (with_reducible repeat (first|apply Kd.S_alloc|apply Kd.S_drewN|apply Kd.S_drew));exact HO367.out) hb);have n3_:=A0_.mk (blk_below (g:=gb356) (o:=.cells #[.int .i64 a2_0,.int .i64 a2_1] 30 (0,0)) (by (with_reducible repeat (first|refine bN_ ?_ _|refine bD_ ?_|refine bA_ ?_ _));exact BK356.out) hb);have n4_:=A0_.mk (below_step (by repeat (first|(with_reducible first|exact HB.out|apply eA_|apply eN_|apply eD_|refine eS_ ?_ GE356.out)|exact HB.out)) hb);have n5_:=A0_.mk (hbox);have n6_:=A0_.mk ((by rw [hg];exact (below_size (by repeat (first|(with_reducible first|exact HB.out|apply eA_|apply eN_|apply eD_|refine eS_ ?_ GE356.out)|exact HB.out))) : w.heap.size ≤ gb371));have n7_:=A0_.mk ((by rw [hg];exact (below_size (by repeat (first|(with_reducible first|exact HB.out|apply eA_|apply eN_|apply eD_|refine eS_ ?_ GE356.out)|exact HB.out))) : w.heap.size ≤ gb371));have n8_:=A0_.mk ((by rw [hg];exact Nat.ne_of_lt (blk_lt (g:=gb356) (o:=.cells #[.int .i64 a2_0,.int .i64 a2_1] 30 (0,0)) (by (with_reducible repeat (first|refine bN_ ?_ _|refine bD_ ?_|refine bA_ ?_ _));exact BK356.out)) : gb356 ≠ gb371));have n9_:=A0_.mk ((by rw [hg];exact Nat.ne_of_gt (blk_lt (g:=gb356) (o:=.cells #[.int .i64 a2_0,.int .i64 a2_1] 30 (0,0)) (by (with_reducible repeat (first|refine bN_ ?_ _|refine bD_ ?_|refine bA_ ?_ _));exact BK356.out)) : gb371 ≠ gb356));clear HO361;clear HO364;clear HO367;clear BK356;clear HB;have HO361:=n0_;have HO364:=n1_;have HO367:=n2_;have BK356:=n3_;have HB:=n4_;have BK371:=n5_;have GW371:=n6_;have GE371:=n7_;have NB356_371:=n8_;have NB371_356:=n9_;clear n0_ n1_ n2_ n3_ n4_ n5_ n6_ n7_ n8_ n9_;clear hb hbox hg)|((with_reducible refine gate_dst (N:=8) rfl ?_);(try (refine gate_guard (by rfl) ?_;dsimp only));refine box_event ?hg (N:=8) ?hd (cs:=#[.int .i64 0,.int .i64 0]) (t:=40) ?hr ?_;(case hd => rfl);(case hg => rfl);(case hr => first|(go_simp;done)|(go_simp;rfl));intro gb372 hg w31 hbox hb;have n0_:=A0_.mk (Kd.R_below (by (with_reducible repeat (first|apply Kd.R_alloc|apply Kd.R_drewN|apply Kd.R_drew));exact HO361.out) hb);have n1_:=A0_.mk (Kd.R_below (by (with_reducible repeat (first|apply Kd.R_alloc|apply Kd.R_drewN|apply Kd.R_drew));exact HO364.out) hb);have n2_:=A0_.mk (Kd.S_below (by (with_reducible repeat (first|apply Kd.S_alloc|apply Kd.S_drewN|apply Kd.S_drew));exact HO367.out) hb);have n3_:=A0_.mk (blk_below (g:=gb356) (o:=.cells #[.int .i64 a2_0,.int .i64 a2_1] 30 (0,0)) (by (with_reducible repeat (first|refine bN_ ?_ _|refine bD_ ?_|refine bA_ ?_ _));exact BK356.out) hb);have n4_:=A0_.mk (blk_below (g:=gb371) (o:=.cells #[.int .i64 0,.slice none 0 0,.slice none 0 0,.slice none 0 0,.int .i64 0] 28 (0,0)) (by (with_reducible repeat (first|refine bN_ ?_ _|refine bD_ ?_|refine bA_ ?_ _));exact BK371.out) hb);have n5_:=A0_.mk (below_step (by repeat (first|(with_reducible first|exact HB.out|apply eA_|apply eN_|apply eD_|refine eS_ ?_ GE356.out|refine eS_ ?_ GE371.out)|exact HB.out)) hb);have n6_:=A0_.mk (hbox);have n7_:=A0_.mk ((by rw [hg];exact (below_size (by repeat (first|(with_reducible first|exact HB.out|apply eA_|apply eN_|apply eD_|refine eS_ ?_ GE356.out|refine eS_ ?_ GE371.out)|exact HB.out))) : w.heap.size ≤ gb372));have n8_:=A0_.mk ((by rw [hg];exact (below_size (by repeat (first|(with_reducible first|exact HB.out|apply eA_|apply eN_|apply eD_|refine eS_ ?_ GE356.out|refine eS_ ?_ GE371.out)|exact HB.out))) : w.heap.size ≤ gb372));have n9_:=A0_.mk ((by rw [hg];exact Nat.ne_of_lt (blk_lt (g:=gb356) (o:=.cells #[.int .i64 a2_0,.int .i64 a2_1] 30 (0,0)) (by (with_reducible repeat (first|refine bN_ ?_ _|refine bD_ ?_|refine bA_ ?_ _));exact BK356.out)) : gb356 ≠ gb372));have n10_:=A0_.mk ((by rw [hg];exact Nat.ne_of_gt (blk_lt (g:=gb356) (o:=.cells #[.int .i64 a2_0,.int .i64 a2_1] 30 (0,0)) (by (with_reducible repeat (first|refine bN_ ?_ _|refine bD_ ?_|refine bA_ ?_ _));exact BK356.out)) : gb372 ≠ gb356));have n11_:=A0_.mk ((by rw [hg];exact Nat.ne_of_lt (blk_lt (g:=gb371) (o:=.cells #[.int .i64 0,.slice none 0 0,.slice none 0 0,.slice none 0 0,.int .i64 0] 28 (0,0)) (by (with_reducible repeat (first|refine bN_ ?_ _|refine bD_ ?_|refine bA_ ?_ _));exact BK371.out)) : gb371 ≠ gb372));have n12_:=A0_.mk ((by rw [hg];exact Nat.ne_of_gt (blk_lt (g:=gb371) (o:=.cells #[.int .i64 0,.slice none 0 0,.slice none 0 0,.slice none 0 0,.int .i64 0] 28 (0,0)) (by (with_reducible repeat (first|refine bN_ ?_ _|refine bD_ ?_|refine bA_ ?_ _));exact BK371.out)) : gb372 ≠ gb371));clear HO361;clear HO364;clear HO367;clear BK356;clear BK371;clear HB;have HO361:=n0_;have HO364:=n1_;have HO367:=n2_;have BK356:=n3_;have BK371:=n4_;have HB:=n5_;have BK372:=n6_;have GW372:=n7_;have GE372:=n8_;have NB356_372:=n9_;have NB372_356:=n10_;have NB371_372:=n11_;have NB372_371:=n12_;clear n0_ n1_ n2_ n3_ n4_ n5_ n6_ n7_ n8_ n9_ n10_ n11_ n12_;clear hb hbox hg;have hnb32:=NB371_356.out;have hnc32:=NB356_371.out;have hnb33:=NB371_372.out;have hnc33:=NB372_371.out;have hcz34_0 : w31.cell? ⟨gb371,0,none⟩ = some (.int .i64 0):=(bC_ BK371.out 0).trans rfl;have hcz34_1 : w31.cell? ⟨gb371,1,none⟩ = some (.slice none 0 0):=(bC_ BK371.out 1).trans rfl;have hcz34_2 : w31.cell? ⟨gb371,2,none⟩ = some (.slice none 0 0):=(bC_ BK371.out 2).trans rfl;have hcz34_3 : w31.cell? ⟨gb371,3,none⟩ = some (.slice none 0 0):=(bC_ BK371.out 3).trans rfl;have hcz34_4 : w31.cell? ⟨gb371,4,none⟩ = some (.int .i64 0):=(bC_ BK371.out 4).trans rfl;have hfz34_0:=bF_ BK371.out 0;have hfz34_1:=bF_ BK371.out 1;have hfz34_2:=bF_ BK371.out 2;have hfz34_3:=bF_ BK371.out 3;have hfz34_4:=bF_ BK371.out 4;obtain ⟨Ao35,co35,eo35⟩:=Kd.R_slice HO361.out;subst eo35;obtain ⟨Ao36,co36,eo36⟩:=Kd.R_slice HO364.out;subst eo36;obtain ⟨Ao37,co37,eo37⟩:=Kd.S_slice HO367.out;subst eo37;have hnb38:=NB372_356.out;have hnc38:=NB356_372.out;have hcz39_0 : w31.cell? ⟨gb372,0,none⟩ = some (.int .i64 0):=(bC_ BK372.out 0).trans rfl;have hcz39_1 : w31.cell? ⟨gb372,1,none⟩ = some (.int .i64 0):=(bC_ BK372.out 1).trans rfl;have hfz39_0:=bF_ BK372.out 0;have hfz39_1:=bF_ BK372.out 1;have hcz40_0 : w31.cell? ⟨gb356,0,none⟩ = some (.int .i64 a2_0):=(bC_ BK356.out 0).trans rfl;have hcz40_1 : w31.cell? ⟨gb356,1,none⟩ = some (.int .i64 a2_1):=(bC_ BK356.out 1).trans rfl;have hfz40_0:=bF_ BK356.out 0;have hfz40_1:=bF_ BK356.out 1)|((with_reducible refine gate_callee (f:=13) rfl ?_);refine goesL_ (some 58) rfl rfl Tryd.func13 (by kernel_rfl) rfl #[.agg #[.int .i64 t358,.slice Ao35 t359.length co35,.slice Ao36 t362.length co36,.slice Ao37 t365.length co37,.int .i64 t368],.int .i64 a2_0,.int .i64 a2_1] rfl (by (try simp only [List.map_toArray,List.map_cons,List.map_nil]);first|done|rfl|(simp only [List.length_drop,List.length_take];rfl)) ?_;(with_reducible refine (stim_Print.calls t358 _ _ t359 _ _ t362 _ _ t365 t368 a2_0 a2_1 t373 t374 _ ?side7 ?side1 ?side2 ?side3 ?side4 ?side5 ?side6 A25.out).mono ?_);(case side1 => refine (Kd.R_reads' (e:=83) (base:=w.heap.size) (ok:=fun k_ => True) (n:=t359.length) (c:=co35) ?_).2.2;exact (by (with_reducible repeat (first|apply Kd.R_alloc|apply Kd.R_drewN|apply Kd.R_drew));exact (Kd.R_mono (Kd.R_mono (Kd.R_far (p:=⟨gb372,1,none⟩) (Kd.R_far (p:=⟨gb372,0,none⟩) (Kd.R_far (p:=⟨gb371,4,none⟩) (Kd.R_far (p:=⟨gb371,3,none⟩) (Kd.R_far (p:=⟨gb371,2,none⟩) (Kd.R_far (p:=⟨gb371,1,none⟩) (Kd.R_far (p:=⟨gb371,0,none⟩) (Kd.R_types (Kd.R_types HO361.out BK371.out (by decide)) BK372.out (by decide)) (fun _ hk => hk.1.2) (.int .i64 t358)) (fun _ hk => hk.1.2) (.slice Ao35 t359.length co35)) (fun _ hk => hk.1.2) (.slice Ao36 t362.length co36)) (fun _ hk => hk.1.2) (.slice Ao37 t365.length co37)) (fun _ hk => hk.1.2) (.int .i64 t368)) (fun _ hk => hk.2) (.int .i64 t369)) (fun _ hk => hk.2) (.int .i64 t370)) (fun _ h_ => h_.1)) (fun _ h_ => h_.1))));(case side2 => exact (Kd.R_reads' HO361.out).2.1);(case side3 => refine (Kd.R_reads' (e:=4) (base:=w.heap.size) (ok:=fun k_ => True) (n:=t362.length) (c:=co36) ?_).2.2;exact (by (with_reducible repeat (first|apply Kd.R_alloc|apply Kd.R_drewN|apply Kd.R_drew));exact (Kd.R_mono (Kd.R_mono (Kd.R_far (p:=⟨gb372,1,none⟩) (Kd.R_far (p:=⟨gb372,0,none⟩) (Kd.R_far (p:=⟨gb371,4,none⟩) (Kd.R_far (p:=⟨gb371,3,none⟩) (Kd.R_far (p:=⟨gb371,2,none⟩) (Kd.R_far (p:=⟨gb371,1,none⟩) (Kd.R_far (p:=⟨gb371,0,none⟩) (Kd.R_types (Kd.R_types HO364.out BK371.out (by decide)) BK372.out (by decide)) (fun _ hk => hk.1.2) (.int .i64 t358)) (fun _ hk => hk.1.2) (.slice Ao35 t359.length co35)) (fun _ hk => hk.1.2) (.slice Ao36 t362.length co36)) (fun _ hk => hk.1.2) (.slice Ao37 t365.length co37)) (fun _ hk => hk.1.2) (.int .i64 t368)) (fun _ hk => hk.2) (.int .i64 t369)) (fun _ hk => hk.2) (.int .i64 t370)) (fun _ h_ => h_.1)) (fun _ h_ => h_.1))));(case side4 => exact (Kd.R_reads' HO364.out).2.1);(case side5 => refine (Kd.S_reads' (e:=23) (base:=w.heap.size) (ok:=fun k_ => some k_ ≠ (.slice Ao36 t362.length co36 : Value).ownBlock) (n:=t365.length) (c:=co37) ?_).2.2;exact (by (with_reducible repeat (first|apply Kd.S_alloc|apply Kd.S_drewN|apply Kd.S_drew));exact (Kd.S_mono (Kd.S_mono (Kd.S_far (p:=⟨gb372,1,none⟩) (Kd.S_far (p:=⟨gb372,0,none⟩) (Kd.S_far (p:=⟨gb371,4,none⟩) (Kd.S_far (p:=⟨gb371,3,none⟩) (Kd.S_far (p:=⟨gb371,2,none⟩) (Kd.S_far (p:=⟨gb371,1,none⟩) (Kd.S_far (p:=⟨gb371,0,none⟩) (Kd.S_types (Kd.S_types HO367.out BK371.out (by decide)) BK372.out (by decide)) (fun _ hk => hk.1.2) (.int .i64 t358)) (fun _ hk => hk.1.2) (.slice Ao35 t359.length co35)) (fun _ hk => hk.1.2) (.slice Ao36 t362.length co36)) (fun _ hk => hk.1.2) (.slice Ao37 t365.length co37)) (fun _ hk => hk.1.2) (.int .i64 t368)) (fun _ hk => hk.2) (.int .i64 t369)) (fun _ hk => hk.2) (.int .i64 t370)) (fun _ h_ => h_.1)) (fun _ h_ => h_.1))));(case side6 => exact (Kd.S_reads' HO367.out).2.1);(case side7 => exact GV_below HG.out (by repeat (first|(with_reducible first|exact HB.out|apply eA_|apply eN_|apply eD_|refine eS_ ?_ GE356.out|refine eS_ ?_ GE371.out|refine eS_ ?_ GE372.out)|exact HB.out)));rintro e w41 ⟨rfl,hb⟩;refine ⟨_,rfl,?_⟩;have n0_:=A0_.mk (Kd.R_below (by (with_reducible repeat (first|apply Kd.R_alloc|apply Kd.R_drewN|apply Kd.R_drew));exact (Kd.R_mono (Kd.R_mono (Kd.R_far (p:=⟨gb372,1,none⟩) (Kd.R_far (p:=⟨gb372,0,none⟩) (Kd.R_far (p:=⟨gb371,4,none⟩) (Kd.R_far (p:=⟨gb371,3,none⟩) (Kd.R_far (p:=⟨gb371,2,none⟩) (Kd.R_far (p:=⟨gb371,1,none⟩) (Kd.R_far (p:=⟨gb371,0,none⟩) (Kd.R_types (Kd.R_types HO361.out BK371.out (by decide)) BK372.out (by decide)) (fun _ hk => hk.1.2) (.int .i64 t358)) (fun _ hk => hk.1.2) (.slice Ao35 t359.length co35)) (fun _ hk => hk.1.2) (.slice Ao36 t362.length co36)) (fun _ hk => hk.1.2) (.slice Ao37 t365.length co37)) (fun _ hk => hk.1.2) (.int .i64 t368)) (fun _ hk => hk.2) (.int .i64 t369)) (fun _ hk => hk.2) (.int .i64 t370)) (fun _ h_ => h_.1)) (fun _ h_ => h_.1))) hb);have n1_:=A0_.mk (Kd.R_below (by (with_reducible repeat (first|apply Kd.R_alloc|apply Kd.R_drewN|apply Kd.R_drew));exact (Kd.R_mono (Kd.R_mono (Kd.R_far (p:=⟨gb372,1,none⟩) (Kd.R_far (p:=⟨gb372,0,none⟩) (Kd.R_far (p:=⟨gb371,4,none⟩) (Kd.R_far (p:=⟨gb371,3,none⟩) (Kd.R_far (p:=⟨gb371,2,none⟩) (Kd.R_far (p:=⟨gb371,1,none⟩) (Kd.R_far (p:=⟨gb371,0,none⟩) (Kd.R_types (Kd.R_types HO364.out BK371.out (by decide)) BK372.out (by decide)) (fun _ hk => hk.1.2) (.int .i64 t358)) (fun _ hk => hk.1.2) (.slice Ao35 t359.length co35)) (fun _ hk => hk.1.2) (.slice Ao36 t362.length co36)) (fun _ hk => hk.1.2) (.slice Ao37 t365.length co37)) (fun _ hk => hk.1.2) (.int .i64 t368)) (fun _ hk => hk.2) (.int .i64 t369)) (fun _ hk => hk.2) (.int .i64 t370)) (fun _ h_ => h_.1)) (fun _ h_ => h_.1))) hb);have n2_:=A0_.mk (Kd.S_below (by (with_reducible repeat (first|apply Kd.S_alloc|apply Kd.S_drewN|apply Kd.S_drew));exact (Kd.S_mono (Kd.S_mono (Kd.S_far (p:=⟨gb372,1,none⟩) (Kd.S_far (p:=⟨gb372,0,none⟩) (Kd.S_far (p:=⟨gb371,4,none⟩) (Kd.S_far (p:=⟨gb371,3,none⟩) (Kd.S_far (p:=⟨gb371,2,none⟩) (Kd.S_far (p:=⟨gb371,1,none⟩) (Kd.S_far (p:=⟨gb371,0,none⟩) (Kd.S_types (Kd.S_types HO367.out BK371.out (by decide)) BK372.out (by decide)) (fun _ hk => hk.1.2) (.int .i64 t358)) (fun _ hk => hk.1.2) (.slice Ao35 t359.length co35)) (fun _ hk => hk.1.2) (.slice Ao36 t362.length co36)) (fun _ hk => hk.1.2) (.slice Ao37 t365.length co37)) (fun _ hk => hk.1.2) (.int .i64 t368)) (fun _ hk => hk.2) (.int .i64 t369)) (fun _ hk => hk.2) (.int .i64 t370)) (fun _ h_ => h_.1)) (fun _ h_ => h_.1))) hb);have n3_:=A0_.mk (blk_below (g:=gb356) (o:=.cells #[.int .i64 a2_0,.int .i64 a2_1] 30 (0,0)) (by (with_reducible repeat (first|refine bN_ ?_ _|refine bD_ ?_|refine bA_ ?_ _));refine blk_far ?_ NB356_372.out _;(with_reducible repeat (first|refine bN_ ?_ _|refine bD_ ?_|refine bA_ ?_ _));refine blk_far ?_ NB356_372.out _;(with_reducible repeat (first|refine bN_ ?_ _|refine bD_ ?_|refine bA_ ?_ _));refine blk_far ?_ NB356_371.out _;(with_reducible repeat (first|refine bN_ ?_ _|refine bD_ ?_|refine bA_ ?_ _));refine blk_far ?_ NB356_371.out _;(with_reducible repeat (first|refine bN_ ?_ _|refine bD_ ?_|refine bA_ ?_ _));refine blk_far ?_ NB356_371.out _;(with_reducible repeat (first|refine bN_ ?_ _|refine bD_ ?_|refine bA_ ?_ _));refine blk_far ?_ NB356_371.out _;(with_reducible repeat (first|refine bN_ ?_ _|refine bD_ ?_|refine bA_ ?_ _));refine blk_far ?_ NB356_371.out _;(with_reducible repeat (first|refine bN_ ?_ _|refine bD_ ?_|refine bA_ ?_ _));exact BK356.out) hb);have n4_:=A0_.mk (blk_below (g:=gb371) (o:=.cells #[.int .i64 t358,.slice Ao35 t359.length co35,.slice Ao36 t362.length co36,.slice Ao37 t365.length co37,.int .i64 t368] 28 (0,0)) (by (with_reducible repeat (first|refine bN_ ?_ _|refine bD_ ?_|refine bA_ ?_ _));refine blk_far ?_ NB371_372.out _;(with_reducible repeat (first|refine bN_ ?_ _|refine bD_ ?_|refine bA_ ?_ _));refine blk_far ?_ NB371_372.out _;(with_reducible repeat (first|refine bN_ ?_ _|refine bD_ ?_|refine bA_ ?_ _));refine blk_put (cs:=#[.int .i64 t358,.slice Ao35 t359.length co35,.slice Ao36 t362.length co36,.slice Ao37 t365.length co37,.int .i64 0]) ?_ 4 _ rfl;(with_reducible repeat (first|refine bN_ ?_ _|refine bD_ ?_|refine bA_ ?_ _));refine blk_put (cs:=#[.int .i64 t358,.slice Ao35 t359.length co35,.slice Ao36 t362.length co36,.slice none 0 0,.int .i64 0]) ?_ 3 _ rfl;(with_reducible repeat (first|refine bN_ ?_ _|refine bD_ ?_|refine bA_ ?_ _));refine blk_put (cs:=#[.int .i64 t358,.slice Ao35 t359.length co35,.slice none 0 0,.slice none 0 0,.int .i64 0]) ?_ 2 _ rfl;(with_reducible repeat (first|refine bN_ ?_ _|refine bD_ ?_|refine bA_ ?_ _));refine blk_put (cs:=#[.int .i64 t358,.slice none 0 0,.slice none 0 0,.slice none 0 0,.int .i64 0]) ?_ 1 _ rfl;(with_reducible repeat (first|refine bN_ ?_ _|refine bD_ ?_|refine bA_ ?_ _));refine blk_put (cs:=#[.int .i64 0,.slice none 0 0,.slice none 0 0,.slice none 0 0,.int .i64 0]) ?_ 0 _ rfl;(with_reducible repeat (first|refine bN_ ?_ _|refine bD_ ?_|refine bA_ ?_ _));exact BK371.out) hb);have n5_:=A0_.mk (blk_below (g:=gb372) (o:=.cells #[.int .i64 t369,.int .i64 t370] 40 (0,0)) (by (with_reducible repeat (first|refine bN_ ?_ _|refine bD_ ?_|refine bA_ ?_ _));refine blk_put (cs:=#[.int .i64 t369,.int .i64 0]) ?_ 1 _ rfl;(with_reducible repeat (first|refine bN_ ?_ _|refine bD_ ?_|refine bA_ ?_ _));refine blk_put (cs:=#[.int .i64 0,.int .i64 0]) ?_ 0 _ rfl;(with_reducible repeat (first|refine bN_ ?_ _|refine bD_ ?_|refine bA_ ?_ _));refine blk_far ?_ NB372_371.out _;(with_reducible repeat (first|refine bN_ ?_ _|refine bD_ ?_|refine bA_ ?_ _));refine blk_far ?_ NB372_371.out _;(with_reducible repeat (first|refine bN_ ?_ _|refine bD_ ?_|refine bA_ ?_ _));refine blk_far ?_ NB372_371.out _;(with_reducible repeat (first|refine bN_ ?_ _|refine bD_ ?_|refine bA_ ?_ _));refine blk_far ?_ NB372_371.out _;(with_reducible repeat (first|refine bN_ ?_ _|refine bD_ ?_|refine bA_ ?_ _));refine blk_far ?_ NB372_371.out _;(with_reducible repeat (first|refine bN_ ?_ _|refine bD_ ?_|refine bA_ ?_ _));exact BK372.out) hb);have n6_:=A0_.mk (below_step (by repeat (first|(with_reducible first|exact HB.out|apply eA_|apply eN_|apply eD_|refine eS_ ?_ GE356.out|refine eS_ ?_ GE371.out|refine eS_ ?_ GE372.out)|exact HB.out)) hb);clear HO361;clear HO364;clear HO367;clear BK356;clear BK371;clear BK372;clear HB;have HO361:=n0_;have HO364:=n1_;have HO367:=n2_;have BK356:=n3_;have BK371:=n4_;have BK372:=n5_;have HB:=n6_;clear n0_ n1_ n2_ n3_ n4_ n5_ n6_;(try clear hb);(try clear hb2);(try clear hk);(try clear hi)))
   (try simp only [Act.put,List.setIfInBounds_toArray,List.set_cons_zero,List.set_cons_succ])
   go_loopg [11,12] k (fun kq v11 v12 w' => ∃ (x11_1 : Bool) (x12_1 : Int),v11 = .bool x11_1 ∧ v12 = .int .i64 x12_1 ∧ A0_ (trestlelaw12_StimForth.l0 kq a0 a1 t373 t374 x11_1 x12_1 a2_0 a2_1 t358 t359 t362 t365 t368 = some r) ∧ A0_ (kq ≤ k) ∧ A0_ (Kd.R k83 83 w' w.heap.size (fun _ => True) (.slice Ao35 t359.length co35) t359) ∧ A0_ (Kd.R Kd.bool 4 w' w.heap.size (fun _ => True) (.slice Ao36 t362.length co36) t362) ∧ A0_ (Kd.S (Kd.slice 4 Kd.bool) 23 w' w.heap.size (fun k_ => some k_ ≠ ((.slice Ao36 t362.length co36) : Value).ownBlock) (.slice Ao37 t365.length co37) t365) ∧ A0_ (w'.heap[gb356]? = some (.cells #[.int .i64 a2_0,.int .i64 a2_1] 30 (0,0))) ∧ A0_ (w'.heap[gb371]? = some (.cells #[.int .i64 t358,(.slice Ao35 t359.length co35),(.slice Ao36 t362.length co36),(.slice Ao37 t365.length co37),.int .i64 t368] 28 (0,0))) ∧ A0_ (w'.heap[gb372]? = some (.cells #[.int .i64 t369,.int .i64 t370] 40 (0,0))) ∧ A0_ (Below w.heap.size w w'))
   case atStart => exact ⟨(false),(0),(by first|rfl|(simp;done)|(simp [*];done)),(by first|rfl|(simp;done)|(simp [*];done)),H',⟨Nat.le_refl _⟩,⟨by (with_reducible repeat (first|apply Kd.R_alloc|apply Kd.R_drewN|apply Kd.R_drew));exact HO361.out⟩,⟨by (with_reducible repeat (first|apply Kd.R_alloc|apply Kd.R_drewN|apply Kd.R_drew));exact HO364.out⟩,⟨by (with_reducible repeat (first|apply Kd.S_alloc|apply Kd.S_drewN|apply Kd.S_drew));exact HO367.out⟩,⟨by (with_reducible repeat (first|refine bN_ ?_ _|refine bD_ ?_|refine bA_ ?_ _));exact BK356.out⟩,⟨by (with_reducible repeat (first|refine bN_ ?_ _|refine bD_ ?_|refine bA_ ?_ _));exact BK371.out⟩,⟨by (with_reducible repeat (first|refine bN_ ?_ _|refine bD_ ?_|refine bA_ ?_ _));exact BK372.out⟩,⟨by repeat (first|(with_reducible first|exact HB.out|apply eA_|apply eN_|apply eD_|refine eS_ ?_ GE356.out|refine eS_ ?_ GE371.out|refine eS_ ?_ GE372.out)|exact HB.out)⟩⟩
   case round =>
    clear H'
    try clear c1
    try clear c2
    try clear p2
    try clear c3
    try clear c5
    try clear c7
    try clear c7b0
    try clear c8
    try clear c8b0
    try clear c9
    try clear c9b0
    try clear c10
    try clear c10b0
    try clear c10b1
    try clear c13
    try clear c17
    try clear c18
    try clear c19
    try clear c23
    try clear c32
    try clear c33
    try clear c38
    try clear hcz13_0
    try clear hcz13_1
    try clear hcz19_0
    try clear hcz19_1
    try clear hcz19_2
    try clear hcz19_3
    try clear hcz19_4
    try clear hcz24_0
    try clear hcz24_1
    try clear hcz28_0
    try clear hcz28_1
    try clear hcz34_0
    try clear hcz34_1
    try clear hcz34_2
    try clear hcz34_3
    try clear hcz34_4
    try clear hcz39_0
    try clear hcz39_1
    try clear hcz40_0
    try clear hcz40_1
    try clear hfz13_0
    try clear hfz13_1
    try clear hfz19_0
    try clear hfz19_1
    try clear hfz19_2
    try clear hfz19_3
    try clear hfz19_4
    try clear hfz24_0
    try clear hfz24_1
    try clear hfz28_0
    try clear hfz28_1
    try clear hfz34_0
    try clear hfz34_1
    try clear hfz34_2
    try clear hfz34_3
    try clear hfz34_4
    try clear hfz39_0
    try clear hfz39_1
    try clear hfz40_0
    try clear hfz40_1
    obtain ⟨x11_1,x12_1,rfl,rfl,HA,HK1,HO_372001,HO_372002,HO_372003,BK356,BK371,BK372,HB⟩:=hrel
    cases gk with
    |zero => exact absurd HA.out (by simp [trestlelaw12_StimForth.l0])
    |succ k1 =>
     have H:=HA.out
     clear HA
     simp only [trestlelaw12_StimForth.l0] at H
     by_cases c42 : x12_1 < (a0.size : Int)
     ·rw [if_pos c42] at H
      have c42b0 : decide (x12_1 < (a0.size : Int)) = true:=decide_eq_true c42
      clear c42
      by_cases c43 : x11_1 = true
      ·subst c43
       have H1 : (trestlelaw12_StimForth.l0 k1 a0 a1 t373 t374 true (wrap64 (x12_1 + 1)) a2_0 a2_1 t358 t359 t362 t365 t368) = some r:=by rw [if_pos rfl] at H;exact H
       clear H
       have H:=H1
       clear H1
       have H':=A0_.mk H
       clear H
       go_wp2
       go_roundg k1
       case measure => have:=HK1.out;omega
       case rel => exact ⟨(true),(wrap64 (x12_1 + 1)),(by first|rfl|(simp;done)|(simp [*];done)),(by first|rfl|(simp;done)|(simp [*];done)),H',⟨by have:=HK1.out;omega⟩,⟨by (with_reducible repeat (first|apply Kd.R_alloc|apply Kd.R_drewN|apply Kd.R_drew));exact HO_372001.out⟩,⟨by (with_reducible repeat (first|apply Kd.R_alloc|apply Kd.R_drewN|apply Kd.R_drew));exact HO_372002.out⟩,⟨by (with_reducible repeat (first|apply Kd.S_alloc|apply Kd.S_drewN|apply Kd.S_drew));exact HO_372003.out⟩,⟨by (with_reducible repeat (first|refine bN_ ?_ _|refine bD_ ?_|refine bA_ ?_ _));exact BK356.out⟩,⟨by (with_reducible repeat (first|refine bN_ ?_ _|refine bD_ ?_|refine bA_ ?_ _));exact BK371.out⟩,⟨by (with_reducible repeat (first|refine bN_ ?_ _|refine bD_ ?_|refine bA_ ?_ _));exact BK372.out⟩,⟨by repeat (first|(with_reducible first|exact HB.out|apply eA_|apply eN_|apply eD_|refine eS_ ?_ GE356.out|refine eS_ ?_ GE371.out|refine eS_ ?_ GE372.out)|exact HB.out)⟩⟩
      ·replace c43:=Bool.eq_false_iff.mpr c43
       subst c43
       have H1 : (if 0 ≤ x12_1 then (trestlelaw12_StimForth.l0 k1 a0 a1 t373 t374 ((bt a0 x12_1) == 120) (wrap64 (x12_1 + 1)) a2_0 a2_1 t358 t359 t362 t365 t368) else (none)) = some r:=by rw [if_neg (show ¬ (false = true) by decide)] at H;exact H
       clear H
       have H:=H1
       clear H1
       by_cases c44 : 0 ≤ x12_1
       ·rw [if_pos c44] at H
        have c44b0 : decide (0 ≤ x12_1) = true:=decide_eq_true c44
        clear c44
        have H':=A0_.mk H
        clear H
        have p45 : 0 ≤ (x12_1 : Int):=of_decide_eq_true (by first|(with_reducible assumption)|assumption)
        have q45 : x12_1 < (a0.size : Int):=of_decide_eq_true (by first|(with_reducible assumption)|assumption)
        have hx45:=bt_at a0 x12_1
        replace p45:=eq_true p45
        replace q45:=eq_true q45
        go_wp2
        go_roundg k1
        case measure => have:=HK1.out;omega
        case rel => exact ⟨(((bt a0 x12_1) == 120)),(wrap64 (x12_1 + 1)),(by first|rfl|(simp;done)|(simp [*];done)),(by first|rfl|(simp;done)|(simp [*];done)),H',⟨by have:=HK1.out;omega⟩,⟨by (with_reducible repeat (first|apply Kd.R_alloc|apply Kd.R_drewN|apply Kd.R_drew));exact HO_372001.out⟩,⟨by (with_reducible repeat (first|apply Kd.R_alloc|apply Kd.R_drewN|apply Kd.R_drew));exact HO_372002.out⟩,⟨by (with_reducible repeat (first|apply Kd.S_alloc|apply Kd.S_drewN|apply Kd.S_drew));exact HO_372003.out⟩,⟨by (with_reducible repeat (first|refine bN_ ?_ _|refine bD_ ?_|refine bA_ ?_ _));exact BK356.out⟩,⟨by (with_reducible repeat (first|refine bN_ ?_ _|refine bD_ ?_|refine bA_ ?_ _));exact BK371.out⟩,⟨by (with_reducible repeat (first|refine bN_ ?_ _|refine bD_ ?_|refine bA_ ?_ _));exact BK372.out⟩,⟨by repeat (first|(with_reducible first|exact HB.out|apply eA_|apply eN_|apply eD_|refine eS_ ?_ GE356.out|refine eS_ ?_ GE371.out|refine eS_ ?_ GE372.out)|exact HB.out)⟩⟩
       ·rw [if_neg c44] at H
        exact absurd H (by simp)
     ·rw [if_neg c42] at H
      have c42b0 : decide (x12_1 < (a0.size : Int)) = false:=decide_eq_false c42
      clear c42
      have HC46:=A0_.mk H
      clear H
      go_upto_region 12 with (fail)
      go_cut [100] (fun v100 wc => ∃ (kq : Nat) (x100_45 : Bool),v100 = .bool x100_45 ∧ A0_ (trestlelaw12_StimForth.j1 kq a0 a1 x100_45 a2_0 a2_1 t358 t359 t362 t365 t368 = some r) ∧ A0_ (kq ≤ k1) ∧ A0_ (Kd.R k83 83 wc w.heap.size (fun _ => True) (.slice Ao35 t359.length co35) t359) ∧ A0_ (Kd.R Kd.bool 4 wc w.heap.size (fun _ => True) (.slice Ao36 t362.length co36) t362) ∧ A0_ (Kd.S (Kd.slice 4 Kd.bool) 23 wc w.heap.size (fun k_ => some k_ ≠ ((.slice Ao36 t362.length co36) : Value).ownBlock) (.slice Ao37 t365.length co37) t365) ∧ A0_ (wc.heap[gb356]? = some (.cells #[.int .i64 a2_0,.int .i64 a2_1] 30 (0,0))) ∧ A0_ (wc.heap[gb371]? = some (.cells #[.int .i64 t358,(.slice Ao35 t359.length co35),(.slice Ao36 t362.length co36),(.slice Ao37 t365.length co37),.int .i64 t368] 28 (0,0))) ∧ A0_ (wc.heap[gb372]? = some (.cells #[.int .i64 t369,.int .i64 t370] 40 (0,0))) ∧ A0_ (Below w.heap.size w wc))
      case first =>
       have H:=HC46.out
       clear HC46
       replace H:=Option.bind_eq_some_iff.mp H
       obtain ⟨t375,A470,H⟩:=H
       replace H : (if t375 = 0 then (if t374 = 0 then (if x11_1 = true then (trestlelaw12_StimForth.j1 k1 a0 a1 ((t373.size : Int) != (a0.size : Int)) a2_0 a2_1 t358 t359 t362 t365 t368) else (if t373.toList = a0.toList then (trestlelaw12_StimForth.j1 k1 a0 a1 ((t373.size : Int) != (a0.size : Int)) a2_0 a2_1 t358 t359 t362 t365 t368) else (trestlelaw12_StimForth.j1 k1 a0 a1 true a2_0 a2_1 t358 t359 t362 t365 t368))) else (trestlelaw12_StimForth.j1 k1 a0 a1 true a2_0 a2_1 t358 t359 t362 t365 t368)) else (trestlelaw12_StimForth.j1 k1 a0 a1 true a2_0 a2_1 t358 t359 t362 t365 t368)) = some r:=H
       have A47:=A0_.mk A470
       clear A470
       by_cases c48 : t375 = 0
       ·rw [if_pos c48] at H
        have c48b0 : (t375 == 0) = true:=beq_iff_eq.mpr c48
        have c48b1 : (t375 != 0) = false:=bne_eq_false_iff_eq.mpr c48
        clear c48
        (first|rw [c48b0]|(simp only [i64_w,i32_w];rw [c48b0])|skip)
        by_cases c49 : t374 = 0
        ·rw [if_pos c49] at H
         have c49b0 : (t374 == 0) = true:=beq_iff_eq.mpr c49
         have c49b1 : (t374 != 0) = false:=bne_eq_false_iff_eq.mpr c49
         clear c49
         by_cases c50 : x11_1 = true
         ·subst c50
          have H1 : (trestlelaw12_StimForth.j1 k1 a0 a1 ((t373.size : Int) != (a0.size : Int)) a2_0 a2_1 t358 t359 t362 t365 t368) = some r:=by rw [if_pos rfl] at H;exact H
          clear H
          have H:=H1
          clear H1
          have H':=A0_.mk H
          clear H
          have hnb51:=NB371_356.out
          have hnc51:=NB356_371.out
          have hnb52:=NB371_372.out
          have hnc52:=NB372_371.out
          have hcz53_0 : wr.cell? ⟨gb371,0,none⟩ = some (.int .i64 t358):=(bC_ BK371.out 0).trans rfl
          have hcz53_1 : wr.cell? ⟨gb371,1,none⟩ = some (.slice Ao35 t359.length co35):=(bC_ BK371.out 1).trans rfl
          have hcz53_2 : wr.cell? ⟨gb371,2,none⟩ = some (.slice Ao36 t362.length co36):=(bC_ BK371.out 2).trans rfl
          have hcz53_3 : wr.cell? ⟨gb371,3,none⟩ = some (.slice Ao37 t365.length co37):=(bC_ BK371.out 3).trans rfl
          have hcz53_4 : wr.cell? ⟨gb371,4,none⟩ = some (.int .i64 t368):=(bC_ BK371.out 4).trans rfl
          have hfz53_0:=bF_ BK371.out 0
          have hfz53_1:=bF_ BK371.out 1
          have hfz53_2:=bF_ BK371.out 2
          have hfz53_3:=bF_ BK371.out 3
          have hfz53_4:=bF_ BK371.out 4
          have hnb54:=NB356_372.out
          have hnc54:=NB372_356.out
          have hcz55_0 : wr.cell? ⟨gb356,0,none⟩ = some (.int .i64 a2_0):=(bC_ BK356.out 0).trans rfl
          have hcz55_1 : wr.cell? ⟨gb356,1,none⟩ = some (.int .i64 a2_1):=(bC_ BK356.out 1).trans rfl
          have hfz55_0:=bF_ BK356.out 0
          have hfz55_1:=bF_ BK356.out 1
          go_wp2_with (first|((with_reducible refine gate_callee (f:=15) rfl ?_);refine goesL_ (some 79) rfl rfl Tryd.func15 (by kernel_rfl) rfl #[.agg #[.int .i64 t358,.slice Ao35 t359.length co35,.slice Ao36 t362.length co36,.slice Ao37 t365.length co37,.int .i64 t368],.int .i64 a2_0,.int .i64 a2_1] rfl (by (try simp only [List.map_toArray,List.map_cons,List.map_nil]);first|done|rfl|(simp only [List.length_drop,List.length_take];rfl)) ?_;(with_reducible refine (stim_Check.calls k1 t358 _ _ t359 _ _ t362 _ _ t365 t368 a2_0 a2_1 t375 _ ?side1 ?side2 ?side3 ?side4 ?side5 ?side6 A47.out).mono ?_);(case side1 => repeat (first|exact (Kd.R_reads' HO_372001.out).2.2|(with_reducible refine Kd.C_alloc ?_ _)|(with_reducible refine Kd.C_drewN ?_ _)|(with_reducible refine Kd.C_drew ?_)));(case side2 => exact (Kd.R_reads' HO_372001.out).2.1);(case side3 => repeat (first|exact (Kd.R_reads' HO_372002.out).2.2|(with_reducible refine Kd.C_alloc ?_ _)|(with_reducible refine Kd.C_drewN ?_ _)|(with_reducible refine Kd.C_drew ?_)));(case side4 => exact (Kd.R_reads' HO_372002.out).2.1);(case side5 => repeat (first|exact (Kd.S_reads' HO_372003.out).2.2|(with_reducible refine Kd.C_alloc ?_ _)|(with_reducible refine Kd.C_drewN ?_ _)|(with_reducible refine Kd.C_drew ?_)));(case side6 => exact (Kd.S_reads' HO_372003.out).2.1);rintro e w56 ⟨rfl,hb⟩;refine ⟨_,rfl,?_⟩;have n0_:=A0_.mk (Kd.R_below (by (with_reducible repeat (first|apply Kd.R_alloc|apply Kd.R_drewN|apply Kd.R_drew));exact HO_372001.out) hb);have n1_:=A0_.mk (Kd.R_below (by (with_reducible repeat (first|apply Kd.R_alloc|apply Kd.R_drewN|apply Kd.R_drew));exact HO_372002.out) hb);have n2_:=A0_.mk (Kd.S_below (by (with_reducible repeat (first|apply Kd.S_alloc|apply Kd.S_drewN|apply Kd.S_drew));exact HO_372003.out) hb);have n3_:=A0_.mk (blk_below (g:=gb356) (o:=.cells #[.int .i64 a2_0,.int .i64 a2_1] 30 (0,0)) (by (with_reducible repeat (first|refine bN_ ?_ _|refine bD_ ?_|refine bA_ ?_ _));exact BK356.out) hb);have n4_:=A0_.mk (blk_below (g:=gb371) (o:=.cells #[.int .i64 t358,.slice Ao35 t359.length co35,.slice Ao36 t362.length co36,.slice Ao37 t365.length co37,.int .i64 t368] 28 (0,0)) (by (with_reducible repeat (first|refine bN_ ?_ _|refine bD_ ?_|refine bA_ ?_ _));exact BK371.out) hb);have n5_:=A0_.mk (blk_below (g:=gb372) (o:=.cells #[.int .i64 t369,.int .i64 t370] 40 (0,0)) (by (with_reducible repeat (first|refine bN_ ?_ _|refine bD_ ?_|refine bA_ ?_ _));exact BK372.out) hb);have n6_:=A0_.mk (below_step (by repeat (first|(with_reducible first|exact HB.out|apply eA_|apply eN_|apply eD_|refine eS_ ?_ GE356.out|refine eS_ ?_ GE371.out|refine eS_ ?_ GE372.out)|exact HB.out)) hb);clear HO_372001;clear HO_372002;clear HO_372003;clear BK356;clear BK371;clear BK372;clear HB;have HO_372001:=n0_;have HO_372002:=n1_;have HO_372003:=n2_;have BK356:=n3_;have BK371:=n4_;have BK372:=n5_;have HB:=n6_;clear n0_ n1_ n2_ n3_ n4_ n5_ n6_;(try clear hb);(try clear hb2);(try clear hk);(try clear hi)))
          go_meet
          case rel => exact ⟨_,(((t373.size : Int) != (a0.size : Int))),(by first|rfl|(simp;done)|(simp [*];done)),H',⟨by have:=HK1.out;first|omega|exact Nat.le_refl _⟩,⟨by (with_reducible repeat (first|apply Kd.R_alloc|apply Kd.R_drewN|apply Kd.R_drew));exact HO_372001.out⟩,⟨by (with_reducible repeat (first|apply Kd.R_alloc|apply Kd.R_drewN|apply Kd.R_drew));exact HO_372002.out⟩,⟨by (with_reducible repeat (first|apply Kd.S_alloc|apply Kd.S_drewN|apply Kd.S_drew));exact HO_372003.out⟩,⟨by (with_reducible repeat (first|refine bN_ ?_ _|refine bD_ ?_|refine bA_ ?_ _));exact BK356.out⟩,⟨by (with_reducible repeat (first|refine bN_ ?_ _|refine bD_ ?_|refine bA_ ?_ _));exact BK371.out⟩,⟨by (with_reducible repeat (first|refine bN_ ?_ _|refine bD_ ?_|refine bA_ ?_ _));exact BK372.out⟩,⟨by repeat (first|(with_reducible first|exact HB.out|apply eA_|apply eN_|apply eD_|refine eS_ ?_ GE356.out|refine eS_ ?_ GE371.out|refine eS_ ?_ GE372.out)|exact HB.out)⟩⟩
         ·replace c50:=Bool.eq_false_iff.mpr c50
          subst c50
          have H1 : (if t373.toList = a0.toList then (trestlelaw12_StimForth.j1 k1 a0 a1 ((t373.size : Int) != (a0.size : Int)) a2_0 a2_1 t358 t359 t362 t365 t368) else (trestlelaw12_StimForth.j1 k1 a0 a1 true a2_0 a2_1 t358 t359 t362 t365 t368)) = some r:=by rw [if_neg (show ¬ (false = true) by decide)] at H;exact H
          clear H
          have H:=H1
          clear H1
          by_cases c57 : t373.toList = a0.toList
          ·rw [if_pos c57] at H
           have c57b0 : (t373.toList == a0.toList) = true:=beq_iff_eq.mpr c57
           have c57b1 : (t373.toList != a0.toList) = false:=bne_eq_false_iff_eq.mpr c57
           clear c57
           have H':=A0_.mk H
           clear H
           have hnb58:=NB371_356.out
           have hnc58:=NB356_371.out
           have hnb59:=NB371_372.out
           have hnc59:=NB372_371.out
           have hcz60_0 : wr.cell? ⟨gb371,0,none⟩ = some (.int .i64 t358):=(bC_ BK371.out 0).trans rfl
           have hcz60_1 : wr.cell? ⟨gb371,1,none⟩ = some (.slice Ao35 t359.length co35):=(bC_ BK371.out 1).trans rfl
           have hcz60_2 : wr.cell? ⟨gb371,2,none⟩ = some (.slice Ao36 t362.length co36):=(bC_ BK371.out 2).trans rfl
           have hcz60_3 : wr.cell? ⟨gb371,3,none⟩ = some (.slice Ao37 t365.length co37):=(bC_ BK371.out 3).trans rfl
           have hcz60_4 : wr.cell? ⟨gb371,4,none⟩ = some (.int .i64 t368):=(bC_ BK371.out 4).trans rfl
           have hfz60_0:=bF_ BK371.out 0
           have hfz60_1:=bF_ BK371.out 1
           have hfz60_2:=bF_ BK371.out 2
           have hfz60_3:=bF_ BK371.out 3
           have hfz60_4:=bF_ BK371.out 4
           have hnb61:=NB356_372.out
           have hnc61:=NB372_356.out
           have hcz62_0 : wr.cell? ⟨gb356,0,none⟩ = some (.int .i64 a2_0):=(bC_ BK356.out 0).trans rfl
           have hcz62_1 : wr.cell? ⟨gb356,1,none⟩ = some (.int .i64 a2_1):=(bC_ BK356.out 1).trans rfl
           have hfz62_0:=bF_ BK356.out 0
           have hfz62_1:=bF_ BK356.out 1
           go_wp2_with (first|((with_reducible refine gate_callee (f:=15) rfl ?_);refine goesL_ (some 79) rfl rfl Tryd.func15 (by kernel_rfl) rfl #[.agg #[.int .i64 t358,.slice Ao35 t359.length co35,.slice Ao36 t362.length co36,.slice Ao37 t365.length co37,.int .i64 t368],.int .i64 a2_0,.int .i64 a2_1] rfl (by (try simp only [List.map_toArray,List.map_cons,List.map_nil]);first|done|rfl|(simp only [List.length_drop,List.length_take];rfl)) ?_;(with_reducible refine (stim_Check.calls k1 t358 _ _ t359 _ _ t362 _ _ t365 t368 a2_0 a2_1 t375 _ ?side1 ?side2 ?side3 ?side4 ?side5 ?side6 A47.out).mono ?_);(case side1 => repeat (first|exact (Kd.R_reads' HO_372001.out).2.2|(with_reducible refine Kd.C_alloc ?_ _)|(with_reducible refine Kd.C_drewN ?_ _)|(with_reducible refine Kd.C_drew ?_)));(case side2 => exact (Kd.R_reads' HO_372001.out).2.1);(case side3 => repeat (first|exact (Kd.R_reads' HO_372002.out).2.2|(with_reducible refine Kd.C_alloc ?_ _)|(with_reducible refine Kd.C_drewN ?_ _)|(with_reducible refine Kd.C_drew ?_)));(case side4 => exact (Kd.R_reads' HO_372002.out).2.1);(case side5 => repeat (first|exact (Kd.S_reads' HO_372003.out).2.2|(with_reducible refine Kd.C_alloc ?_ _)|(with_reducible refine Kd.C_drewN ?_ _)|(with_reducible refine Kd.C_drew ?_)));(case side6 => exact (Kd.S_reads' HO_372003.out).2.1);rintro e w63 ⟨rfl,hb⟩;refine ⟨_,rfl,?_⟩;have n0_:=A0_.mk (Kd.R_below (by (with_reducible repeat (first|apply Kd.R_alloc|apply Kd.R_drewN|apply Kd.R_drew));exact HO_372001.out) hb);have n1_:=A0_.mk (Kd.R_below (by (with_reducible repeat (first|apply Kd.R_alloc|apply Kd.R_drewN|apply Kd.R_drew));exact HO_372002.out) hb);have n2_:=A0_.mk (Kd.S_below (by (with_reducible repeat (first|apply Kd.S_alloc|apply Kd.S_drewN|apply Kd.S_drew));exact HO_372003.out) hb);have n3_:=A0_.mk (blk_below (g:=gb356) (o:=.cells #[.int .i64 a2_0,.int .i64 a2_1] 30 (0,0)) (by (with_reducible repeat (first|refine bN_ ?_ _|refine bD_ ?_|refine bA_ ?_ _));exact BK356.out) hb);have n4_:=A0_.mk (blk_below (g:=gb371) (o:=.cells #[.int .i64 t358,.slice Ao35 t359.length co35,.slice Ao36 t362.length co36,.slice Ao37 t365.length co37,.int .i64 t368] 28 (0,0)) (by (with_reducible repeat (first|refine bN_ ?_ _|refine bD_ ?_|refine bA_ ?_ _));exact BK371.out) hb);have n5_:=A0_.mk (blk_below (g:=gb372) (o:=.cells #[.int .i64 t369,.int .i64 t370] 40 (0,0)) (by (with_reducible repeat (first|refine bN_ ?_ _|refine bD_ ?_|refine bA_ ?_ _));exact BK372.out) hb);have n6_:=A0_.mk (below_step (by repeat (first|(with_reducible first|exact HB.out|apply eA_|apply eN_|apply eD_|refine eS_ ?_ GE356.out|refine eS_ ?_ GE371.out|refine eS_ ?_ GE372.out)|exact HB.out)) hb);clear HO_372001;clear HO_372002;clear HO_372003;clear BK356;clear BK371;clear BK372;clear HB;have HO_372001:=n0_;have HO_372002:=n1_;have HO_372003:=n2_;have BK356:=n3_;have BK371:=n4_;have BK372:=n5_;have HB:=n6_;clear n0_ n1_ n2_ n3_ n4_ n5_ n6_;(try clear hb);(try clear hb2);(try clear hk);(try clear hi)))
           go_meet
           case rel => exact ⟨_,(((t373.size : Int) != (a0.size : Int))),(by first|rfl|(simp;done)|(simp [*];done)),H',⟨by have:=HK1.out;first|omega|exact Nat.le_refl _⟩,⟨by (with_reducible repeat (first|apply Kd.R_alloc|apply Kd.R_drewN|apply Kd.R_drew));exact HO_372001.out⟩,⟨by (with_reducible repeat (first|apply Kd.R_alloc|apply Kd.R_drewN|apply Kd.R_drew));exact HO_372002.out⟩,⟨by (with_reducible repeat (first|apply Kd.S_alloc|apply Kd.S_drewN|apply Kd.S_drew));exact HO_372003.out⟩,⟨by (with_reducible repeat (first|refine bN_ ?_ _|refine bD_ ?_|refine bA_ ?_ _));exact BK356.out⟩,⟨by (with_reducible repeat (first|refine bN_ ?_ _|refine bD_ ?_|refine bA_ ?_ _));exact BK371.out⟩,⟨by (with_reducible repeat (first|refine bN_ ?_ _|refine bD_ ?_|refine bA_ ?_ _));exact BK372.out⟩,⟨by repeat (first|(with_reducible first|exact HB.out|apply eA_|apply eN_|apply eD_|refine eS_ ?_ GE356.out|refine eS_ ?_ GE371.out|refine eS_ ?_ GE372.out)|exact HB.out)⟩⟩
          ·rw [if_neg c57] at H
           have c57b0 : (t373.toList == a0.toList) = false:=beq_eq_false_iff_ne.mpr c57
           have c57b1 : (t373.toList != a0.toList) = true:=bne_iff_ne.mpr c57
           have H':=A0_.mk H
           clear H
           have hnb64:=NB371_356.out
           have hnc64:=NB356_371.out
           have hnb65:=NB371_372.out
           have hnc65:=NB372_371.out
           have hcz66_0 : wr.cell? ⟨gb371,0,none⟩ = some (.int .i64 t358):=(bC_ BK371.out 0).trans rfl
           have hcz66_1 : wr.cell? ⟨gb371,1,none⟩ = some (.slice Ao35 t359.length co35):=(bC_ BK371.out 1).trans rfl
           have hcz66_2 : wr.cell? ⟨gb371,2,none⟩ = some (.slice Ao36 t362.length co36):=(bC_ BK371.out 2).trans rfl
           have hcz66_3 : wr.cell? ⟨gb371,3,none⟩ = some (.slice Ao37 t365.length co37):=(bC_ BK371.out 3).trans rfl
           have hcz66_4 : wr.cell? ⟨gb371,4,none⟩ = some (.int .i64 t368):=(bC_ BK371.out 4).trans rfl
           have hfz66_0:=bF_ BK371.out 0
           have hfz66_1:=bF_ BK371.out 1
           have hfz66_2:=bF_ BK371.out 2
           have hfz66_3:=bF_ BK371.out 3
           have hfz66_4:=bF_ BK371.out 4
           have hnb67:=NB356_372.out
           have hnc67:=NB372_356.out
           have hcz68_0 : wr.cell? ⟨gb356,0,none⟩ = some (.int .i64 a2_0):=(bC_ BK356.out 0).trans rfl
           have hcz68_1 : wr.cell? ⟨gb356,1,none⟩ = some (.int .i64 a2_1):=(bC_ BK356.out 1).trans rfl
           have hfz68_0:=bF_ BK356.out 0
           have hfz68_1:=bF_ BK356.out 1
           go_wp2_with (first|((with_reducible refine gate_callee (f:=15) rfl ?_);refine goesL_ (some 79) rfl rfl Tryd.func15 (by kernel_rfl) rfl #[.agg #[.int .i64 t358,.slice Ao35 t359.length co35,.slice Ao36 t362.length co36,.slice Ao37 t365.length co37,.int .i64 t368],.int .i64 a2_0,.int .i64 a2_1] rfl (by (try simp only [List.map_toArray,List.map_cons,List.map_nil]);first|done|rfl|(simp only [List.length_drop,List.length_take];rfl)) ?_;(with_reducible refine (stim_Check.calls k1 t358 _ _ t359 _ _ t362 _ _ t365 t368 a2_0 a2_1 t375 _ ?side1 ?side2 ?side3 ?side4 ?side5 ?side6 A47.out).mono ?_);(case side1 => repeat (first|exact (Kd.R_reads' HO_372001.out).2.2|(with_reducible refine Kd.C_alloc ?_ _)|(with_reducible refine Kd.C_drewN ?_ _)|(with_reducible refine Kd.C_drew ?_)));(case side2 => exact (Kd.R_reads' HO_372001.out).2.1);(case side3 => repeat (first|exact (Kd.R_reads' HO_372002.out).2.2|(with_reducible refine Kd.C_alloc ?_ _)|(with_reducible refine Kd.C_drewN ?_ _)|(with_reducible refine Kd.C_drew ?_)));(case side4 => exact (Kd.R_reads' HO_372002.out).2.1);(case side5 => repeat (first|exact (Kd.S_reads' HO_372003.out).2.2|(with_reducible refine Kd.C_alloc ?_ _)|(with_reducible refine Kd.C_drewN ?_ _)|(with_reducible refine Kd.C_drew ?_)));(case side6 => exact (Kd.S_reads' HO_372003.out).2.1);rintro e w69 ⟨rfl,hb⟩;refine ⟨_,rfl,?_⟩;have n0_:=A0_.mk (Kd.R_below (by (with_reducible repeat (first|apply Kd.R_alloc|apply Kd.R_drewN|apply Kd.R_drew));exact HO_372001.out) hb);have n1_:=A0_.mk (Kd.R_below (by (with_reducible repeat (first|apply Kd.R_alloc|apply Kd.R_drewN|apply Kd.R_drew));exact HO_372002.out) hb);have n2_:=A0_.mk (Kd.S_below (by (with_reducible repeat (first|apply Kd.S_alloc|apply Kd.S_drewN|apply Kd.S_drew));exact HO_372003.out) hb);have n3_:=A0_.mk (blk_below (g:=gb356) (o:=.cells #[.int .i64 a2_0,.int .i64 a2_1] 30 (0,0)) (by (with_reducible repeat (first|refine bN_ ?_ _|refine bD_ ?_|refine bA_ ?_ _));exact BK356.out) hb);have n4_:=A0_.mk (blk_below (g:=gb371) (o:=.cells #[.int .i64 t358,.slice Ao35 t359.length co35,.slice Ao36 t362.length co36,.slice Ao37 t365.length co37,.int .i64 t368] 28 (0,0)) (by (with_reducible repeat (first|refine bN_ ?_ _|refine bD_ ?_|refine bA_ ?_ _));exact BK371.out) hb);have n5_:=A0_.mk (blk_below (g:=gb372) (o:=.cells #[.int .i64 t369,.int .i64 t370] 40 (0,0)) (by (with_reducible repeat (first|refine bN_ ?_ _|refine bD_ ?_|refine bA_ ?_ _));exact BK372.out) hb);have n6_:=A0_.mk (below_step (by repeat (first|(with_reducible first|exact HB.out|apply eA_|apply eN_|apply eD_|refine eS_ ?_ GE356.out|refine eS_ ?_ GE371.out|refine eS_ ?_ GE372.out)|exact HB.out)) hb);clear HO_372001;clear HO_372002;clear HO_372003;clear BK356;clear BK371;clear BK372;clear HB;have HO_372001:=n0_;have HO_372002:=n1_;have HO_372003:=n2_;have BK356:=n3_;have BK371:=n4_;have BK372:=n5_;have HB:=n6_;clear n0_ n1_ n2_ n3_ n4_ n5_ n6_;(try clear hb);(try clear hb2);(try clear hk);(try clear hi)))
           go_meet
           case rel => exact ⟨_,(true),(by first|rfl|(simp;done)|(simp [*];done)),H',⟨by have:=HK1.out;first|omega|exact Nat.le_refl _⟩,⟨by (with_reducible repeat (first|apply Kd.R_alloc|apply Kd.R_drewN|apply Kd.R_drew));exact HO_372001.out⟩,⟨by (with_reducible repeat (first|apply Kd.R_alloc|apply Kd.R_drewN|apply Kd.R_drew));exact HO_372002.out⟩,⟨by (with_reducible repeat (first|apply Kd.S_alloc|apply Kd.S_drewN|apply Kd.S_drew));exact HO_372003.out⟩,⟨by (with_reducible repeat (first|refine bN_ ?_ _|refine bD_ ?_|refine bA_ ?_ _));exact BK356.out⟩,⟨by (with_reducible repeat (first|refine bN_ ?_ _|refine bD_ ?_|refine bA_ ?_ _));exact BK371.out⟩,⟨by (with_reducible repeat (first|refine bN_ ?_ _|refine bD_ ?_|refine bA_ ?_ _));exact BK372.out⟩,⟨by repeat (first|(with_reducible first|exact HB.out|apply eA_|apply eN_|apply eD_|refine eS_ ?_ GE356.out|refine eS_ ?_ GE371.out|refine eS_ ?_ GE372.out)|exact HB.out)⟩⟩
        ·rw [if_neg c49] at H
         have c49b0 : (t374 == 0) = false:=beq_eq_false_iff_ne.mpr c49
         have c49b1 : (t374 != 0) = true:=bne_iff_ne.mpr c49
         have H':=A0_.mk H
         clear H
         have hnb70:=NB371_356.out
         have hnc70:=NB356_371.out
         have hnb71:=NB371_372.out
         have hnc71:=NB372_371.out
         have hcz72_0 : wr.cell? ⟨gb371,0,none⟩ = some (.int .i64 t358):=(bC_ BK371.out 0).trans rfl
         have hcz72_1 : wr.cell? ⟨gb371,1,none⟩ = some (.slice Ao35 t359.length co35):=(bC_ BK371.out 1).trans rfl
         have hcz72_2 : wr.cell? ⟨gb371,2,none⟩ = some (.slice Ao36 t362.length co36):=(bC_ BK371.out 2).trans rfl
         have hcz72_3 : wr.cell? ⟨gb371,3,none⟩ = some (.slice Ao37 t365.length co37):=(bC_ BK371.out 3).trans rfl
         have hcz72_4 : wr.cell? ⟨gb371,4,none⟩ = some (.int .i64 t368):=(bC_ BK371.out 4).trans rfl
         have hfz72_0:=bF_ BK371.out 0
         have hfz72_1:=bF_ BK371.out 1
         have hfz72_2:=bF_ BK371.out 2
         have hfz72_3:=bF_ BK371.out 3
         have hfz72_4:=bF_ BK371.out 4
         have hnb73:=NB356_372.out
         have hnc73:=NB372_356.out
         have hcz74_0 : wr.cell? ⟨gb356,0,none⟩ = some (.int .i64 a2_0):=(bC_ BK356.out 0).trans rfl
         have hcz74_1 : wr.cell? ⟨gb356,1,none⟩ = some (.int .i64 a2_1):=(bC_ BK356.out 1).trans rfl
         have hfz74_0:=bF_ BK356.out 0
         have hfz74_1:=bF_ BK356.out 1
         go_wp2_with (first|((with_reducible refine gate_callee (f:=15) rfl ?_);refine goesL_ (some 79) rfl rfl Tryd.func15 (by kernel_rfl) rfl #[.agg #[.int .i64 t358,.slice Ao35 t359.length co35,.slice Ao36 t362.length co36,.slice Ao37 t365.length co37,.int .i64 t368],.int .i64 a2_0,.int .i64 a2_1] rfl (by (try simp only [List.map_toArray,List.map_cons,List.map_nil]);first|done|rfl|(simp only [List.length_drop,List.length_take];rfl)) ?_;(with_reducible refine (stim_Check.calls k1 t358 _ _ t359 _ _ t362 _ _ t365 t368 a2_0 a2_1 t375 _ ?side1 ?side2 ?side3 ?side4 ?side5 ?side6 A47.out).mono ?_);(case side1 => repeat (first|exact (Kd.R_reads' HO_372001.out).2.2|(with_reducible refine Kd.C_alloc ?_ _)|(with_reducible refine Kd.C_drewN ?_ _)|(with_reducible refine Kd.C_drew ?_)));(case side2 => exact (Kd.R_reads' HO_372001.out).2.1);(case side3 => repeat (first|exact (Kd.R_reads' HO_372002.out).2.2|(with_reducible refine Kd.C_alloc ?_ _)|(with_reducible refine Kd.C_drewN ?_ _)|(with_reducible refine Kd.C_drew ?_)));(case side4 => exact (Kd.R_reads' HO_372002.out).2.1);(case side5 => repeat (first|exact (Kd.S_reads' HO_372003.out).2.2|(with_reducible refine Kd.C_alloc ?_ _)|(with_reducible refine Kd.C_drewN ?_ _)|(with_reducible refine Kd.C_drew ?_)));(case side6 => exact (Kd.S_reads' HO_372003.out).2.1);rintro e w75 ⟨rfl,hb⟩;refine ⟨_,rfl,?_⟩;have n0_:=A0_.mk (Kd.R_below (by (with_reducible repeat (first|apply Kd.R_alloc|apply Kd.R_drewN|apply Kd.R_drew));exact HO_372001.out) hb);have n1_:=A0_.mk (Kd.R_below (by (with_reducible repeat (first|apply Kd.R_alloc|apply Kd.R_drewN|apply Kd.R_drew));exact HO_372002.out) hb);have n2_:=A0_.mk (Kd.S_below (by (with_reducible repeat (first|apply Kd.S_alloc|apply Kd.S_drewN|apply Kd.S_drew));exact HO_372003.out) hb);have n3_:=A0_.mk (blk_below (g:=gb356) (o:=.cells #[.int .i64 a2_0,.int .i64 a2_1] 30 (0,0)) (by (with_reducible repeat (first|refine bN_ ?_ _|refine bD_ ?_|refine bA_ ?_ _));exact BK356.out) hb);have n4_:=A0_.mk (blk_below (g:=gb371) (o:=.cells #[.int .i64 t358,.slice Ao35 t359.length co35,.slice Ao36 t362.length co36,.slice Ao37 t365.length co37,.int .i64 t368] 28 (0,0)) (by (with_reducible repeat (first|refine bN_ ?_ _|refine bD_ ?_|refine bA_ ?_ _));exact BK371.out) hb);have n5_:=A0_.mk (blk_below (g:=gb372) (o:=.cells #[.int .i64 t369,.int .i64 t370] 40 (0,0)) (by (with_reducible repeat (first|refine bN_ ?_ _|refine bD_ ?_|refine bA_ ?_ _));exact BK372.out) hb);have n6_:=A0_.mk (below_step (by repeat (first|(with_reducible first|exact HB.out|apply eA_|apply eN_|apply eD_|refine eS_ ?_ GE356.out|refine eS_ ?_ GE371.out|refine eS_ ?_ GE372.out)|exact HB.out)) hb);clear HO_372001;clear HO_372002;clear HO_372003;clear BK356;clear BK371;clear BK372;clear HB;have HO_372001:=n0_;have HO_372002:=n1_;have HO_372003:=n2_;have BK356:=n3_;have BK371:=n4_;have BK372:=n5_;have HB:=n6_;clear n0_ n1_ n2_ n3_ n4_ n5_ n6_;(try clear hb);(try clear hb2);(try clear hk);(try clear hi)))
         go_meet
         case rel => exact ⟨_,(true),(by first|rfl|(simp;done)|(simp [*];done)),H',⟨by have:=HK1.out;first|omega|exact Nat.le_refl _⟩,⟨by (with_reducible repeat (first|apply Kd.R_alloc|apply Kd.R_drewN|apply Kd.R_drew));exact HO_372001.out⟩,⟨by (with_reducible repeat (first|apply Kd.R_alloc|apply Kd.R_drewN|apply Kd.R_drew));exact HO_372002.out⟩,⟨by (with_reducible repeat (first|apply Kd.S_alloc|apply Kd.S_drewN|apply Kd.S_drew));exact HO_372003.out⟩,⟨by (with_reducible repeat (first|refine bN_ ?_ _|refine bD_ ?_|refine bA_ ?_ _));exact BK356.out⟩,⟨by (with_reducible repeat (first|refine bN_ ?_ _|refine bD_ ?_|refine bA_ ?_ _));exact BK371.out⟩,⟨by (with_reducible repeat (first|refine bN_ ?_ _|refine bD_ ?_|refine bA_ ?_ _));exact BK372.out⟩,⟨by repeat (first|(with_reducible first|exact HB.out|apply eA_|apply eN_|apply eD_|refine eS_ ?_ GE356.out|refine eS_ ?_ GE371.out|refine eS_ ?_ GE372.out)|exact HB.out)⟩⟩
       ·rw [if_neg c48] at H
        have c48b0 : (t375 == 0) = false:=beq_eq_false_iff_ne.mpr c48
        have c48b1 : (t375 != 0) = true:=bne_iff_ne.mpr c48
        (first|rw [c48b0]|(simp only [i64_w,i32_w];rw [c48b0])|skip)
        have H':=A0_.mk H
        clear H
        have hnb76:=NB371_356.out
        have hnc76:=NB356_371.out
        have hnb77:=NB371_372.out
        have hnc77:=NB372_371.out
        have hcz78_0 : wr.cell? ⟨gb371,0,none⟩ = some (.int .i64 t358):=(bC_ BK371.out 0).trans rfl
        have hcz78_1 : wr.cell? ⟨gb371,1,none⟩ = some (.slice Ao35 t359.length co35):=(bC_ BK371.out 1).trans rfl
        have hcz78_2 : wr.cell? ⟨gb371,2,none⟩ = some (.slice Ao36 t362.length co36):=(bC_ BK371.out 2).trans rfl
        have hcz78_3 : wr.cell? ⟨gb371,3,none⟩ = some (.slice Ao37 t365.length co37):=(bC_ BK371.out 3).trans rfl
        have hcz78_4 : wr.cell? ⟨gb371,4,none⟩ = some (.int .i64 t368):=(bC_ BK371.out 4).trans rfl
        have hfz78_0:=bF_ BK371.out 0
        have hfz78_1:=bF_ BK371.out 1
        have hfz78_2:=bF_ BK371.out 2
        have hfz78_3:=bF_ BK371.out 3
        have hfz78_4:=bF_ BK371.out 4
        have hnb79:=NB356_372.out
        have hnc79:=NB372_356.out
        have hcz80_0 : wr.cell? ⟨gb356,0,none⟩ = some (.int .i64 a2_0):=(bC_ BK356.out 0).trans rfl
        have hcz80_1 : wr.cell? ⟨gb356,1,none⟩ = some (.int .i64 a2_1):=(bC_ BK356.out 1).trans rfl
        have hfz80_0:=bF_ BK356.out 0
        have hfz80_1:=bF_ BK356.out 1
        go_wp2_with (first|((with_reducible refine gate_callee (f:=15) rfl ?_);refine goesL_ (some 79) rfl rfl Tryd.func15 (by kernel_rfl) rfl #[.agg #[.int .i64 t358,.slice Ao35 t359.length co35,.slice Ao36 t362.length co36,.slice Ao37 t365.length co37,.int .i64 t368],.int .i64 a2_0,.int .i64 a2_1] rfl (by (try simp only [List.map_toArray,List.map_cons,List.map_nil]);first|done|rfl|(simp only [List.length_drop,List.length_take];rfl)) ?_;(with_reducible refine (stim_Check.calls k1 t358 _ _ t359 _ _ t362 _ _ t365 t368 a2_0 a2_1 t375 _ ?side1 ?side2 ?side3 ?side4 ?side5 ?side6 A47.out).mono ?_);(case side1 => repeat (first|exact (Kd.R_reads' HO_372001.out).2.2|(with_reducible refine Kd.C_alloc ?_ _)|(with_reducible refine Kd.C_drewN ?_ _)|(with_reducible refine Kd.C_drew ?_)));(case side2 => exact (Kd.R_reads' HO_372001.out).2.1);(case side3 => repeat (first|exact (Kd.R_reads' HO_372002.out).2.2|(with_reducible refine Kd.C_alloc ?_ _)|(with_reducible refine Kd.C_drewN ?_ _)|(with_reducible refine Kd.C_drew ?_)));(case side4 => exact (Kd.R_reads' HO_372002.out).2.1);(case side5 => repeat (first|exact (Kd.S_reads' HO_372003.out).2.2|(with_reducible refine Kd.C_alloc ?_ _)|(with_reducible refine Kd.C_drewN ?_ _)|(with_reducible refine Kd.C_drew ?_)));(case side6 => exact (Kd.S_reads' HO_372003.out).2.1);rintro e w81 ⟨rfl,hb⟩;refine ⟨_,rfl,?_⟩;have n0_:=A0_.mk (Kd.R_below (by (with_reducible repeat (first|apply Kd.R_alloc|apply Kd.R_drewN|apply Kd.R_drew));exact HO_372001.out) hb);have n1_:=A0_.mk (Kd.R_below (by (with_reducible repeat (first|apply Kd.R_alloc|apply Kd.R_drewN|apply Kd.R_drew));exact HO_372002.out) hb);have n2_:=A0_.mk (Kd.S_below (by (with_reducible repeat (first|apply Kd.S_alloc|apply Kd.S_drewN|apply Kd.S_drew));exact HO_372003.out) hb);have n3_:=A0_.mk (blk_below (g:=gb356) (o:=.cells #[.int .i64 a2_0,.int .i64 a2_1] 30 (0,0)) (by (with_reducible repeat (first|refine bN_ ?_ _|refine bD_ ?_|refine bA_ ?_ _));exact BK356.out) hb);have n4_:=A0_.mk (blk_below (g:=gb371) (o:=.cells #[.int .i64 t358,.slice Ao35 t359.length co35,.slice Ao36 t362.length co36,.slice Ao37 t365.length co37,.int .i64 t368] 28 (0,0)) (by (with_reducible repeat (first|refine bN_ ?_ _|refine bD_ ?_|refine bA_ ?_ _));exact BK371.out) hb);have n5_:=A0_.mk (blk_below (g:=gb372) (o:=.cells #[.int .i64 t369,.int .i64 t370] 40 (0,0)) (by (with_reducible repeat (first|refine bN_ ?_ _|refine bD_ ?_|refine bA_ ?_ _));exact BK372.out) hb);have n6_:=A0_.mk (below_step (by repeat (first|(with_reducible first|exact HB.out|apply eA_|apply eN_|apply eD_|refine eS_ ?_ GE356.out|refine eS_ ?_ GE371.out|refine eS_ ?_ GE372.out)|exact HB.out)) hb);clear HO_372001;clear HO_372002;clear HO_372003;clear BK356;clear BK371;clear BK372;clear HB;have HO_372001:=n0_;have HO_372002:=n1_;have HO_372003:=n2_;have BK356:=n3_;have BK371:=n4_;have BK372:=n5_;have HB:=n6_;clear n0_ n1_ n2_ n3_ n4_ n5_ n6_;(try clear hb);(try clear hb2);(try clear hk);(try clear hi)))
        go_meet
        case rel => exact ⟨_,(true),(by first|rfl|(simp;done)|(simp [*];done)),H',⟨by have:=HK1.out;first|omega|exact Nat.le_refl _⟩,⟨by (with_reducible repeat (first|apply Kd.R_alloc|apply Kd.R_drewN|apply Kd.R_drew));exact HO_372001.out⟩,⟨by (with_reducible repeat (first|apply Kd.R_alloc|apply Kd.R_drewN|apply Kd.R_drew));exact HO_372002.out⟩,⟨by (with_reducible repeat (first|apply Kd.S_alloc|apply Kd.S_drewN|apply Kd.S_drew));exact HO_372003.out⟩,⟨by (with_reducible repeat (first|refine bN_ ?_ _|refine bD_ ?_|refine bA_ ?_ _));exact BK356.out⟩,⟨by (with_reducible repeat (first|refine bN_ ?_ _|refine bD_ ?_|refine bA_ ?_ _));exact BK371.out⟩,⟨by (with_reducible repeat (first|refine bN_ ?_ _|refine bD_ ?_|refine bA_ ?_ _));exact BK372.out⟩,⟨by repeat (first|(with_reducible first|exact HB.out|apply eA_|apply eN_|apply eD_|refine eS_ ?_ GE356.out|refine eS_ ?_ GE371.out|refine eS_ ?_ GE372.out)|exact HB.out)⟩⟩
      case rest =>
       clear HC46
       try clear c1
       try clear c2
       try clear p2
       try clear c3
       try clear c4
       try clear p4
       try clear q4
       try clear hx4
       try clear c5
       try clear c6
       try clear p6
       try clear c7
       try clear c7b0
       try clear c8
       try clear c8b0
       try clear c9
       try clear c9b0
       try clear c10
       try clear c10b0
       try clear c10b1
       try clear c13
       try clear c15
       try clear c17
       try clear c18
       try clear c19
       try clear c23
       try clear c32
       try clear c33
       try clear c38
       try clear c42
       try clear c42b0
       try clear c43
       try clear c44
       try clear c44b0
       try clear p45
       try clear q45
       try clear hx45
       try clear c48
       try clear c48b0
       try clear c48b1
       try clear c49
       try clear c49b0
       try clear c49b1
       try clear c50
       try clear c51
       try clear c52
       try clear c54
       try clear c57
       try clear c57b0
       try clear c57b1
       try clear c58
       try clear c59
       try clear c61
       try clear c64
       try clear p64
       try clear c65
       try clear c67
       try clear c70
       try clear c71
       try clear c73
       try clear c76
       try clear c77
       try clear c79
       try clear hcz13_0
       try clear hcz13_1
       try clear hcz19_0
       try clear hcz19_1
       try clear hcz19_2
       try clear hcz19_3
       try clear hcz19_4
       try clear hcz24_0
       try clear hcz24_1
       try clear hcz28_0
       try clear hcz28_1
       try clear hcz34_0
       try clear hcz34_1
       try clear hcz34_2
       try clear hcz34_3
       try clear hcz34_4
       try clear hcz39_0
       try clear hcz39_1
       try clear hcz40_0
       try clear hcz40_1
       try clear hcz53_0
       try clear hcz53_1
       try clear hcz53_2
       try clear hcz53_3
       try clear hcz53_4
       try clear hcz55_0
       try clear hcz55_1
       try clear hcz60_0
       try clear hcz60_1
       try clear hcz60_2
       try clear hcz60_3
       try clear hcz60_4
       try clear hcz62_0
       try clear hcz62_1
       try clear hcz66_0
       try clear hcz66_1
       try clear hcz66_2
       try clear hcz66_3
       try clear hcz66_4
       try clear hcz68_0
       try clear hcz68_1
       try clear hcz72_0
       try clear hcz72_1
       try clear hcz72_2
       try clear hcz72_3
       try clear hcz72_4
       try clear hcz74_0
       try clear hcz74_1
       try clear hcz78_0
       try clear hcz78_1
       try clear hcz78_2
       try clear hcz78_3
       try clear hcz78_4
       try clear hcz80_0
       try clear hcz80_1
       try clear hfz13_0
       try clear hfz13_1
       try clear hfz19_0
       try clear hfz19_1
       try clear hfz19_2
       try clear hfz19_3
       try clear hfz19_4
       try clear hfz24_0
       try clear hfz24_1
       try clear hfz28_0
       try clear hfz28_1
       try clear hfz34_0
       try clear hfz34_1
       try clear hfz34_2
       try clear hfz34_3
       try clear hfz34_4
       try clear hfz39_0
       try clear hfz39_1
       try clear hfz40_0
       try clear hfz40_1
       try clear hfz53_0
       try clear hfz53_1
       try clear hfz53_2
       try clear hfz53_3
       try clear hfz53_4
       try clear hfz55_0
       try clear hfz55_1
       try clear hfz60_0
       try clear hfz60_1
       try clear hfz60_2
       try clear hfz60_3
       try clear hfz60_4
       try clear hfz62_0
       try clear hfz62_1
       try clear hfz66_0
       try clear hfz66_1
       try clear hfz66_2
       try clear hfz66_3
       try clear hfz66_4
       try clear hfz68_0
       try clear hfz68_1
       try clear hfz72_0
       try clear hfz72_1
       try clear hfz72_2
       try clear hfz72_3
       try clear hfz72_4
       try clear hfz74_0
       try clear hfz74_1
       try clear hfz78_0
       try clear hfz78_1
       try clear hfz78_2
       try clear hfz78_3
       try clear hfz78_4
       try clear hfz80_0
       try clear hfz80_1
       try clear p2
       try clear p45
       try clear q45
       obtain ⟨kq,x100_45,rfl,HA,HJ45,HO_372001,HO_372002,HO_372003,BK356,BK371,BK372,HB⟩:=hcut
       cases kq with
       |zero => exact absurd HA.out (by simp [trestlelaw12_StimForth.j1])
       |succ kj45 =>
        have H:=HA.out
        clear HA
        simp only [trestlelaw12_StimForth.j1] at H
        by_cases c82 : x100_45 = true
        ·subst c82
         have H1 : (none) = some r:=by rw [if_pos rfl] at H;exact H
         clear H
         have H:=H1
         clear H1
         exact absurd H (by simp)
        ·replace c82:=Bool.eq_false_iff.mpr c82
         subst c82
         have H1 : ((stim_Read.f a1 a2_0 a2_1).bind fun bt376 => (if a0.size + a1.size ≤ 9223372036854775807 then ((stim_All.f (a0 ++ a1) a2_0 a2_1).bind fun bt391 => (if (!(bt376.2.2.2.2.2.1 == 0) || (!(bt376.2.2.2.2.2.2 == 0))) = true then (trestlelaw12_StimForth.j2 kj45 bt391.1 true t358 t359 t362 t365 t368 bt376.1 bt376.2.1 bt376.2.2.1 bt376.2.2.2.1 bt376.2.2.2.2.1 bt391.2.1 bt391.2.2) else (trestlelaw12_StimForth.j2 kj45 bt391.1 (decide ((wrap64 ((a0.size : Int) + (a1.size : Int))) > 262144)) t358 t359 t362 t365 t368 bt376.1 bt376.2.1 bt376.2.2.1 bt376.2.2.2.1 bt376.2.2.2.2.1 bt391.2.1 bt391.2.2))) else (none))) = some r:=by rw [if_neg (show ¬ (false = true) by decide)] at H;exact H
         clear H
         have H:=H1
         clear H1
         replace H:=Option.bind_eq_some_iff.mp H
         obtain ⟨⟨t376,t377,t380,t383,t386,t387,t388⟩,A830,H⟩:=H
         replace H : (if a0.size + a1.size ≤ 9223372036854775807 then ((stim_All.f (a0 ++ a1) a2_0 a2_1).bind fun bt391 => (if (!(t387 == 0) || (!(t388 == 0))) = true then (trestlelaw12_StimForth.j2 kj45 bt391.1 true t358 t359 t362 t365 t368 t376 t377 t380 t383 t386 bt391.2.1 bt391.2.2) else (trestlelaw12_StimForth.j2 kj45 bt391.1 (decide ((wrap64 ((a0.size : Int) + (a1.size : Int))) > 262144)) t358 t359 t362 t365 t368 t376 t377 t380 t383 t386 bt391.2.1 bt391.2.2))) else (none)) = some r:=H
         have A83:=A0_.mk A830
         clear A830
         by_cases c84 : a0.size + a1.size ≤ 9223372036854775807
         ·rw [if_pos c84] at H
          have c84b0:=eq_true c84
          have c84b1 : decide (a0.size + a1.size ≤ 9223372036854775807) = true:=decide_eq_true c84
          try have c84b2 : (9223372036854775807 < a0.size + a1.size) = False:=eq_false (Nat.not_lt.2 c84)
          replace H:=Option.bind_eq_some_iff.mp H
          obtain ⟨⟨t391,t394,t395⟩,A850,H⟩:=H
          replace H : (if (!(t387 == 0) || (!(t388 == 0))) = true then (trestlelaw12_StimForth.j2 kj45 t391 true t358 t359 t362 t365 t368 t376 t377 t380 t383 t386 t394 t395) else (trestlelaw12_StimForth.j2 kj45 t391 (decide ((wrap64 ((a0.size : Int) + (a1.size : Int))) > 262144)) t358 t359 t362 t365 t368 t376 t377 t380 t383 t386 t394 t395)) = some r:=H
          have A85:=A0_.mk A850
          clear A850
          have HC86:=A0_.mk H
          clear H
          have hnb87:=NB356_371.out
          have hnc87:=NB371_356.out
          have hnb88:=NB356_372.out
          have hnc88:=NB372_356.out
          have hcz89_0 : wc.cell? ⟨gb356,0,none⟩ = some (.int .i64 a2_0):=(bC_ BK356.out 0).trans rfl
          have hcz89_1 : wc.cell? ⟨gb356,1,none⟩ = some (.int .i64 a2_1):=(bC_ BK356.out 1).trans rfl
          have hfz89_0:=bF_ BK356.out 0
          have hfz89_1:=bF_ BK356.out 1
          go_upto_region 16 with (first|((with_reducible refine gate_callee (f:=19) rfl ?_);refine goesL_ (some 107) rfl rfl Tryd.func19 (by kernel_rfl) rfl #[.string a1,.int .i64 a2_0,.int .i64 a2_1] rfl (by (try simp only [List.map_toArray,List.map_cons,List.map_nil]);first|done|rfl|(simp only [List.length_drop,List.length_take];rfl)) ?_;(with_reducible refine (stim_Read.calls a1 a2_0 a2_1 t376 t377 t380 t383 t386 t387 t388 _ ?side1 A83.out).mono ?_);(case side1 => exact GV_below HG.out (by repeat (first|(with_reducible first|exact HB.out|apply eA_|apply eN_|apply eD_|refine eS_ ?_ GE356.out|refine eS_ ?_ GE371.out|refine eS_ ?_ GE372.out)|exact HB.out)));rintro e w90 ⟨v378,v381,v384,rfl,ho0,ho1,ho2,hb⟩;refine ⟨_,rfl,?_⟩;have n0_:=A0_.mk (Kd.R_elder' (by (with_reducible repeat (first|apply Kd.R_alloc|apply Kd.R_drewN|apply Kd.R_drew));exact HO_372001.out) (Kd.R_base ho0) hb);have n1_:=A0_.mk (Kd.R_elder' (by (with_reducible repeat (first|apply Kd.R_alloc|apply Kd.R_drewN|apply Kd.R_drew));exact HO_372002.out) (Kd.R_base ho1) hb);have n2_:=A0_.mk (Kd.S_mono (Kd.S_told (Kd.S_told (Kd.S_old (by (with_reducible repeat (first|apply Kd.S_alloc|apply Kd.S_drewN|apply Kd.S_drew));exact HO_372003.out) hb) (Kd.R_base ho1)) (Kd.S_base ho2)) (fun _ h_ => h_.1));have n3_:=A0_.mk (Kd.R_lower (Kd.R_new' ho0 (Kd.R_lt (by (with_reducible repeat (first|apply Kd.R_alloc|apply Kd.R_drewN|apply Kd.R_drew));exact HO_372001.out))) (below_size (by repeat (first|(with_reducible first|exact HB.out|apply eA_|apply eN_|apply eD_|refine eS_ ?_ GE356.out|refine eS_ ?_ GE371.out|refine eS_ ?_ GE372.out)|exact HB.out))));have n4_:=A0_.mk (Kd.R_lower (Kd.R_new' ho1 (Kd.R_lt (by (with_reducible repeat (first|apply Kd.R_alloc|apply Kd.R_drewN|apply Kd.R_drew));exact HO_372002.out))) (below_size (by repeat (first|(with_reducible first|exact HB.out|apply eA_|apply eN_|apply eD_|refine eS_ ?_ GE356.out|refine eS_ ?_ GE371.out|refine eS_ ?_ GE372.out)|exact HB.out))));have n5_:=A0_.mk (Kd.S_lower (Kd.S_new' (Kd.S_new' ho2 (Kd.R_lt (by (with_reducible repeat (first|apply Kd.R_alloc|apply Kd.R_drewN|apply Kd.R_drew));exact HO_372002.out))) (Kd.S_lt (by (with_reducible repeat (first|apply Kd.S_alloc|apply Kd.S_drewN|apply Kd.S_drew));exact HO_372003.out))) (below_size (by repeat (first|(with_reducible first|exact HB.out|apply eA_|apply eN_|apply eD_|refine eS_ ?_ GE356.out|refine eS_ ?_ GE371.out|refine eS_ ?_ GE372.out)|exact HB.out))));have n6_:=A0_.mk (blk_below (g:=gb356) (o:=.cells #[.int .i64 a2_0,.int .i64 a2_1] 30 (0,0)) (by (with_reducible repeat (first|refine bN_ ?_ _|refine bD_ ?_|refine bA_ ?_ _));exact BK356.out) hb);have n7_:=A0_.mk (blk_below (g:=gb371) (o:=.cells #[.int .i64 t358,.slice Ao35 t359.length co35,.slice Ao36 t362.length co36,.slice Ao37 t365.length co37,.int .i64 t368] 28 (0,0)) (by (with_reducible repeat (first|refine bN_ ?_ _|refine bD_ ?_|refine bA_ ?_ _));exact BK371.out) hb);have n8_:=A0_.mk (blk_below (g:=gb372) (o:=.cells #[.int .i64 t369,.int .i64 t370] 40 (0,0)) (by (with_reducible repeat (first|refine bN_ ?_ _|refine bD_ ?_|refine bA_ ?_ _));exact BK372.out) hb);have n9_:=A0_.mk (below_step (by repeat (first|(with_reducible first|exact HB.out|apply eA_|apply eN_|apply eD_|refine eS_ ?_ GE356.out|refine eS_ ?_ GE371.out|refine eS_ ?_ GE372.out)|exact HB.out)) hb);clear HO_372001;clear HO_372002;clear HO_372003;clear BK356;clear BK371;clear BK372;clear HB;have HO_372001:=n0_;have HO_372002:=n1_;have HO_372003:=n2_;have HO379:=n3_;have HO382:=n4_;have HO385:=n5_;have BK356:=n6_;have BK371:=n7_;have BK372:=n8_;have HB:=n9_;clear n0_ n1_ n2_ n3_ n4_ n5_ n6_ n7_ n8_ n9_;(try clear hb);(try clear hb2);(try clear hk);(try clear hi);(try clear ho0);(try clear ho1);(try clear ho2))|((with_reducible refine gate_dst (N:=13) rfl ?_);(try (refine gate_guard (by rfl) ?_;dsimp only));refine box_event ?hg (N:=13) ?hd (cs:=#[.int .i64 0,.slice none 0 0,.slice none 0 0,.slice none 0 0,.int .i64 0]) (t:=28) ?hr ?_;(case hd => rfl);(case hg => rfl);(case hr => first|(go_simp;done)|(go_simp;rfl));intro gb389 hg w91 hbox hb;have n0_:=A0_.mk (Kd.R_below (by (with_reducible repeat (first|apply Kd.R_alloc|apply Kd.R_drewN|apply Kd.R_drew));exact HO_372001.out) hb);have n1_:=A0_.mk (Kd.R_below (by (with_reducible repeat (first|apply Kd.R_alloc|apply Kd.R_drewN|apply Kd.R_drew));exact HO_372002.out) hb);have n2_:=A0_.mk (Kd.S_below (by (with_reducible repeat (first|apply Kd.S_alloc|apply Kd.S_drewN|apply Kd.S_drew));exact HO_372003.out) hb);have n3_:=A0_.mk (Kd.R_below (by (with_reducible repeat (first|apply Kd.R_alloc|apply Kd.R_drewN|apply Kd.R_drew));exact HO379.out) hb);have n4_:=A0_.mk (Kd.R_below (by (with_reducible repeat (first|apply Kd.R_alloc|apply Kd.R_drewN|apply Kd.R_drew));exact HO382.out) hb);have n5_:=A0_.mk (Kd.S_below (by (with_reducible repeat (first|apply Kd.S_alloc|apply Kd.S_drewN|apply Kd.S_drew));exact HO385.out) hb);have n6_:=A0_.mk (blk_below (g:=gb356) (o:=.cells #[.int .i64 a2_0,.int .i64 a2_1] 30 (0,0)) (by (with_reducible repeat (first|refine bN_ ?_ _|refine bD_ ?_|refine bA_ ?_ _));exact BK356.out) hb);have n7_:=A0_.mk (blk_below (g:=gb371) (o:=.cells #[.int .i64 t358,.slice Ao35 t359.length co35,.slice Ao36 t362.length co36,.slice Ao37 t365.length co37,.int .i64 t368] 28 (0,0)) (by (with_reducible repeat (first|refine bN_ ?_ _|refine bD_ ?_|refine bA_ ?_ _));exact BK371.out) hb);have n8_:=A0_.mk (blk_below (g:=gb372) (o:=.cells #[.int .i64 t369,.int .i64 t370] 40 (0,0)) (by (with_reducible repeat (first|refine bN_ ?_ _|refine bD_ ?_|refine bA_ ?_ _));exact BK372.out) hb);have n9_:=A0_.mk (below_step (by repeat (first|(with_reducible first|exact HB.out|apply eA_|apply eN_|apply eD_|refine eS_ ?_ GE356.out|refine eS_ ?_ GE371.out|refine eS_ ?_ GE372.out)|exact HB.out)) hb);have n10_:=A0_.mk (hbox);have n11_:=A0_.mk ((by rw [hg];exact (below_size (by repeat (first|(with_reducible first|exact HB.out|apply eA_|apply eN_|apply eD_|refine eS_ ?_ GE356.out|refine eS_ ?_ GE371.out|refine eS_ ?_ GE372.out)|exact HB.out))) : w.heap.size ≤ gb389));have n12_:=A0_.mk ((by rw [hg];exact (below_size (by repeat (first|(with_reducible first|exact HB.out|apply eA_|apply eN_|apply eD_|refine eS_ ?_ GE356.out|refine eS_ ?_ GE371.out|refine eS_ ?_ GE372.out)|exact HB.out))) : w.heap.size ≤ gb389));have n13_:=A0_.mk ((by rw [hg];exact Nat.ne_of_lt (blk_lt (g:=gb356) (o:=.cells #[.int .i64 a2_0,.int .i64 a2_1] 30 (0,0)) (by (with_reducible repeat (first|refine bN_ ?_ _|refine bD_ ?_|refine bA_ ?_ _));exact BK356.out)) : gb356 ≠ gb389));have n14_:=A0_.mk ((by rw [hg];exact Nat.ne_of_gt (blk_lt (g:=gb356) (o:=.cells #[.int .i64 a2_0,.int .i64 a2_1] 30 (0,0)) (by (with_reducible repeat (first|refine bN_ ?_ _|refine bD_ ?_|refine bA_ ?_ _));exact BK356.out)) : gb389 ≠ gb356));have n15_:=A0_.mk ((by rw [hg];exact Nat.ne_of_lt (blk_lt (g:=gb371) (o:=.cells #[.int .i64 t358,.slice Ao35 t359.length co35,.slice Ao36 t362.length co36,.slice Ao37 t365.length co37,.int .i64 t368] 28 (0,0)) (by (with_reducible repeat (first|refine bN_ ?_ _|refine bD_ ?_|refine bA_ ?_ _));exact BK371.out)) : gb371 ≠ gb389));have n16_:=A0_.mk ((by rw [hg];exact Nat.ne_of_gt (blk_lt (g:=gb371) (o:=.cells #[.int .i64 t358,.slice Ao35 t359.length co35,.slice Ao36 t362.length co36,.slice Ao37 t365.length co37,.int .i64 t368] 28 (0,0)) (by (with_reducible repeat (first|refine bN_ ?_ _|refine bD_ ?_|refine bA_ ?_ _));exact BK371.out)) : gb389 ≠ gb371));have n17_:=A0_.mk ((by rw [hg];exact Nat.ne_of_lt (blk_lt (g:=gb372) (o:=.cells #[.int .i64 t369,.int .i64 t370] 40 (0,0)) (by (with_reducible repeat (first|refine bN_ ?_ _|refine bD_ ?_|refine bA_ ?_ _));exact BK372.out)) : gb372 ≠ gb389));have n18_:=A0_.mk ((by rw [hg];exact Nat.ne_of_gt (blk_lt (g:=gb372) (o:=.cells #[.int .i64 t369,.int .i64 t370] 40 (0,0)) (by (with_reducible repeat (first|refine bN_ ?_ _|refine bD_ ?_|refine bA_ ?_ _));exact BK372.out)) : gb389 ≠ gb372));clear HO_372001;clear HO_372002;clear HO_372003;clear HO379;clear HO382;clear HO385;clear BK356;clear BK371;clear BK372;clear HB;have HO_372001:=n0_;have HO_372002:=n1_;have HO_372003:=n2_;have HO379:=n3_;have HO382:=n4_;have HO385:=n5_;have BK356:=n6_;have BK371:=n7_;have BK372:=n8_;have HB:=n9_;have BK389:=n10_;have GW389:=n11_;have GE389:=n12_;have NB356_389:=n13_;have NB389_356:=n14_;have NB371_389:=n15_;have NB389_371:=n16_;have NB372_389:=n17_;have NB389_372:=n18_;clear n0_ n1_ n2_ n3_ n4_ n5_ n6_ n7_ n8_ n9_ n10_ n11_ n12_ n13_ n14_ n15_ n16_ n17_ n18_;clear hb hbox hg)|((with_reducible refine gate_dst (N:=14) rfl ?_);(try (refine gate_guard (by rfl) ?_;dsimp only));refine box_event ?hg (N:=14) ?hd (cs:=#[.int .i64 0,.int .i64 0]) (t:=40) ?hr ?_;(case hd => rfl);(case hg => rfl);(case hr => first|(go_simp;done)|(go_simp;rfl));intro gb390 hg w92 hbox hb;have n0_:=A0_.mk (Kd.R_below (by (with_reducible repeat (first|apply Kd.R_alloc|apply Kd.R_drewN|apply Kd.R_drew));exact HO_372001.out) hb);have n1_:=A0_.mk (Kd.R_below (by (with_reducible repeat (first|apply Kd.R_alloc|apply Kd.R_drewN|apply Kd.R_drew));exact HO_372002.out) hb);have n2_:=A0_.mk (Kd.S_below (by (with_reducible repeat (first|apply Kd.S_alloc|apply Kd.S_drewN|apply Kd.S_drew));exact HO_372003.out) hb);have n3_:=A0_.mk (Kd.R_below (by (with_reducible repeat (first|apply Kd.R_alloc|apply Kd.R_drewN|apply Kd.R_drew));exact HO379.out) hb);have n4_:=A0_.mk (Kd.R_below (by (with_reducible repeat (first|apply Kd.R_alloc|apply Kd.R_drewN|apply Kd.R_drew));exact HO382.out) hb);have n5_:=A0_.mk (Kd.S_below (by (with_reducible repeat (first|apply Kd.S_alloc|apply Kd.S_drewN|apply Kd.S_drew));exact HO385.out) hb);have n6_:=A0_.mk (blk_below (g:=gb356) (o:=.cells #[.int .i64 a2_0,.int .i64 a2_1] 30 (0,0)) (by (with_reducible repeat (first|refine bN_ ?_ _|refine bD_ ?_|refine bA_ ?_ _));exact BK356.out) hb);have n7_:=A0_.mk (blk_below (g:=gb371) (o:=.cells #[.int .i64 t358,.slice Ao35 t359.length co35,.slice Ao36 t362.length co36,.slice Ao37 t365.length co37,.int .i64 t368] 28 (0,0)) (by (with_reducible repeat (first|refine bN_ ?_ _|refine bD_ ?_|refine bA_ ?_ _));exact BK371.out) hb);have n8_:=A0_.mk (blk_below (g:=gb372) (o:=.cells #[.int .i64 t369,.int .i64 t370] 40 (0,0)) (by (with_reducible repeat (first|refine bN_ ?_ _|refine bD_ ?_|refine bA_ ?_ _));exact BK372.out) hb);have n9_:=A0_.mk (blk_below (g:=gb389) (o:=.cells #[.int .i64 0,.slice none 0 0,.slice none 0 0,.slice none 0 0,.int .i64 0] 28 (0,0)) (by (with_reducible repeat (first|refine bN_ ?_ _|refine bD_ ?_|refine bA_ ?_ _));exact BK389.out) hb);have n10_:=A0_.mk (below_step (by repeat (first|(with_reducible first|exact HB.out|apply eA_|apply eN_|apply eD_|refine eS_ ?_ GE356.out|refine eS_ ?_ GE371.out|refine eS_ ?_ GE372.out|refine eS_ ?_ GE389.out)|exact HB.out)) hb);have n11_:=A0_.mk (hbox);have n12_:=A0_.mk ((by rw [hg];exact (below_size (by repeat (first|(with_reducible first|exact HB.out|apply eA_|apply eN_|apply eD_|refine eS_ ?_ GE356.out|refine eS_ ?_ GE371.out|refine eS_ ?_ GE372.out|refine eS_ ?_ GE389.out)|exact HB.out))) : w.heap.size ≤ gb390));have n13_:=A0_.mk ((by rw [hg];exact (below_size (by repeat (first|(with_reducible first|exact HB.out|apply eA_|apply eN_|apply eD_|refine eS_ ?_ GE356.out|refine eS_ ?_ GE371.out|refine eS_ ?_ GE372.out|refine eS_ ?_ GE389.out)|exact HB.out))) : w.heap.size ≤ gb390));have n14_:=A0_.mk ((by rw [hg];exact Nat.ne_of_lt (blk_lt (g:=gb356) (o:=.cells #[.int .i64 a2_0,.int .i64 a2_1] 30 (0,0)) (by (with_reducible repeat (first|refine bN_ ?_ _|refine bD_ ?_|refine bA_ ?_ _));exact BK356.out)) : gb356 ≠ gb390));have n15_:=A0_.mk ((by rw [hg];exact Nat.ne_of_gt (blk_lt (g:=gb356) (o:=.cells #[.int .i64 a2_0,.int .i64 a2_1] 30 (0,0)) (by (with_reducible repeat (first|refine bN_ ?_ _|refine bD_ ?_|refine bA_ ?_ _));exact BK356.out)) : gb390 ≠ gb356));have n16_:=A0_.mk ((by rw [hg];exact Nat.ne_of_lt (blk_lt (g:=gb371) (o:=.cells #[.int .i64 t358,.slice Ao35 t359.length co35,.slice Ao36 t362.length co36,.slice Ao37 t365.length co37,.int .i64 t368] 28 (0,0)) (by (with_reducible repeat (first|refine bN_ ?_ _|refine bD_ ?_|refine bA_ ?_ _));exact BK371.out)) : gb371 ≠ gb390));have n17_:=A0_.mk ((by rw [hg];exact Nat.ne_of_gt (blk_lt (g:=gb371) (o:=.cells #[.int .i64 t358,.slice Ao35 t359.length co35,.slice Ao36 t362.length co36,.slice Ao37 t365.length co37,.int .i64 t368] 28 (0,0)) (by (with_reducible repeat (first|refine bN_ ?_ _|refine bD_ ?_|refine bA_ ?_ _));exact BK371.out)) : gb390 ≠ gb371));have n18_:=A0_.mk ((by rw [hg];exact Nat.ne_of_lt (blk_lt (g:=gb372) (o:=.cells #[.int .i64 t369,.int .i64 t370] 40 (0,0)) (by (with_reducible repeat (first|refine bN_ ?_ _|refine bD_ ?_|refine bA_ ?_ _));exact BK372.out)) : gb372 ≠ gb390));have n19_:=A0_.mk ((by rw [hg];exact Nat.ne_of_gt (blk_lt (g:=gb372) (o:=.cells #[.int .i64 t369,.int .i64 t370] 40 (0,0)) (by (with_reducible repeat (first|refine bN_ ?_ _|refine bD_ ?_|refine bA_ ?_ _));exact BK372.out)) : gb390 ≠ gb372));have n20_:=A0_.mk ((by rw [hg];exact Nat.ne_of_lt (blk_lt (g:=gb389) (o:=.cells #[.int .i64 0,.slice none 0 0,.slice none 0 0,.slice none 0 0,.int .i64 0] 28 (0,0)) (by (with_reducible repeat (first|refine bN_ ?_ _|refine bD_ ?_|refine bA_ ?_ _));exact BK389.out)) : gb389 ≠ gb390));have n21_:=A0_.mk ((by rw [hg];exact Nat.ne_of_gt (blk_lt (g:=gb389) (o:=.cells #[.int .i64 0,.slice none 0 0,.slice none 0 0,.slice none 0 0,.int .i64 0] 28 (0,0)) (by (with_reducible repeat (first|refine bN_ ?_ _|refine bD_ ?_|refine bA_ ?_ _));exact BK389.out)) : gb390 ≠ gb389));clear HO_372001;clear HO_372002;clear HO_372003;clear HO379;clear HO382;clear HO385;clear BK356;clear BK371;clear BK372;clear BK389;clear HB;have HO_372001:=n0_;have HO_372002:=n1_;have HO_372003:=n2_;have HO379:=n3_;have HO382:=n4_;have HO385:=n5_;have BK356:=n6_;have BK371:=n7_;have BK372:=n8_;have BK389:=n9_;have HB:=n10_;have BK390:=n11_;have GW390:=n12_;have GE390:=n13_;have NB356_390:=n14_;have NB390_356:=n15_;have NB371_390:=n16_;have NB390_371:=n17_;have NB372_390:=n18_;have NB390_372:=n19_;have NB389_390:=n20_;have NB390_389:=n21_;clear n0_ n1_ n2_ n3_ n4_ n5_ n6_ n7_ n8_ n9_ n10_ n11_ n12_ n13_ n14_ n15_ n16_ n17_ n18_ n19_ n20_ n21_;clear hb hbox hg;have hnb93:=NB389_356.out;have hnc93:=NB356_389.out;have hnb94:=NB389_371.out;have hnc94:=NB371_389.out;have hnb95:=NB389_372.out;have hnc95:=NB372_389.out;have hnb96:=NB389_390.out;have hnc96:=NB390_389.out;have hcz97_0 : w92.cell? ⟨gb389,0,none⟩ = some (.int .i64 0):=(bC_ BK389.out 0).trans rfl;have hcz97_1 : w92.cell? ⟨gb389,1,none⟩ = some (.slice none 0 0):=(bC_ BK389.out 1).trans rfl;have hcz97_2 : w92.cell? ⟨gb389,2,none⟩ = some (.slice none 0 0):=(bC_ BK389.out 2).trans rfl;have hcz97_3 : w92.cell? ⟨gb389,3,none⟩ = some (.slice none 0 0):=(bC_ BK389.out 3).trans rfl;have hcz97_4 : w92.cell? ⟨gb389,4,none⟩ = some (.int .i64 0):=(bC_ BK389.out 4).trans rfl;have hfz97_0:=bF_ BK389.out 0;have hfz97_1:=bF_ BK389.out 1;have hfz97_2:=bF_ BK389.out 2;have hfz97_3:=bF_ BK389.out 3;have hfz97_4:=bF_ BK389.out 4;obtain ⟨Ao98,co98,eo98⟩:=Kd.R_slice HO379.out;subst eo98;obtain ⟨Ao99,co99,eo99⟩:=Kd.R_slice HO382.out;subst eo99;obtain ⟨Ao100,co100,eo100⟩:=Kd.S_slice HO385.out;subst eo100;have hnb101:=NB390_356.out;have hnc101:=NB356_390.out;have hnb102:=NB390_371.out;have hnc102:=NB371_390.out;have hnb103:=NB390_372.out;have hnc103:=NB372_390.out;have hcz104_0 : w92.cell? ⟨gb390,0,none⟩ = some (.int .i64 0):=(bC_ BK390.out 0).trans rfl;have hcz104_1 : w92.cell? ⟨gb390,1,none⟩ = some (.int .i64 0):=(bC_ BK390.out 1).trans rfl;have hfz104_0:=bF_ BK390.out 0;have hfz104_1:=bF_ BK390.out 1;have hcz105_0 : w92.cell? ⟨gb356,0,none⟩ = some (.int .i64 a2_0):=(bC_ BK356.out 0).trans rfl;have hcz105_1 : w92.cell? ⟨gb356,1,none⟩ = some (.int .i64 a2_1):=(bC_ BK356.out 1).trans rfl;have hfz105_0:=bF_ BK356.out 0;have hfz105_1:=bF_ BK356.out 1)|((with_reducible refine gate_callee (f:=20) rfl ?_);refine goesL_ (some 118) rfl rfl Tryd.func20 (by kernel_rfl) rfl #[.string (a0 ++ a1),.int .i64 a2_0,.int .i64 a2_1] rfl (by (try simp only [List.map_toArray,List.map_cons,List.map_nil]);first|done|rfl|(simp only [List.length_drop,List.length_take];rfl)) ?_;(with_reducible refine (stim_All.calls (a0 ++ a1) a2_0 a2_1 t391 t394 t395 _ ?side1 A85.out).mono ?_);(case side1 => exact GV_below HG.out (by repeat (first|(with_reducible first|exact HB.out|apply eA_|apply eN_|apply eD_|refine eS_ ?_ GE356.out|refine eS_ ?_ GE371.out|refine eS_ ?_ GE372.out|refine eS_ ?_ GE389.out|refine eS_ ?_ GE390.out)|exact HB.out)));rintro e w106 ⟨v392,rfl,ho0,hb⟩;refine ⟨_,rfl,?_⟩;have n0_:=A0_.mk (Kd.R_below (by (with_reducible repeat (first|apply Kd.R_alloc|apply Kd.R_drewN|apply Kd.R_drew));exact (Kd.R_mono (Kd.R_mono (Kd.R_far (p:=⟨gb390,1,none⟩) (Kd.R_far (p:=⟨gb390,0,none⟩) (Kd.R_far (p:=⟨gb389,4,none⟩) (Kd.R_far (p:=⟨gb389,3,none⟩) (Kd.R_far (p:=⟨gb389,2,none⟩) (Kd.R_far (p:=⟨gb389,1,none⟩) (Kd.R_far (p:=⟨gb389,0,none⟩) (Kd.R_types (Kd.R_types HO_372001.out BK389.out (by decide)) BK390.out (by decide)) (fun _ hk => hk.1.2) (.int .i64 t376)) (fun _ hk => hk.1.2) (.slice Ao98 t377.length co98)) (fun _ hk => hk.1.2) (.slice Ao99 t380.length co99)) (fun _ hk => hk.1.2) (.slice Ao100 t383.length co100)) (fun _ hk => hk.1.2) (.int .i64 t386)) (fun _ hk => hk.2) (.int .i64 t387)) (fun _ hk => hk.2) (.int .i64 t388)) (fun _ h_ => h_.1)) (fun _ h_ => h_.1))) hb);have n1_:=A0_.mk (Kd.R_below (by (with_reducible repeat (first|apply Kd.R_alloc|apply Kd.R_drewN|apply Kd.R_drew));exact (Kd.R_mono (Kd.R_mono (Kd.R_far (p:=⟨gb390,1,none⟩) (Kd.R_far (p:=⟨gb390,0,none⟩) (Kd.R_far (p:=⟨gb389,4,none⟩) (Kd.R_far (p:=⟨gb389,3,none⟩) (Kd.R_far (p:=⟨gb389,2,none⟩) (Kd.R_far (p:=⟨gb389,1,none⟩) (Kd.R_far (p:=⟨gb389,0,none⟩) (Kd.R_types (Kd.R_types HO_372002.out BK389.out (by decide)) BK390.out (by decide)) (fun _ hk => hk.1.2) (.int .i64 t376)) (fun _ hk => hk.1.2) (.slice Ao98 t377.length co98)) (fun _ hk => hk.1.2) (.slice Ao99 t380.length co99)) (fun _ hk => hk.1.2) (.slice Ao100 t383.length co100)) (fun _ hk => hk.1.2) (.int .i64 t386)) (fun _ hk => hk.2) (.int .i64 t387)) (fun _ hk => hk.2) (.int .i64 t388)) (fun _ h_ => h_.1)) (fun _ h_ => h_.1))) hb);have n2_:=A0_.mk (Kd.S_below (by (with_reducible repeat (first|apply Kd.S_alloc|apply Kd.S_drewN|apply Kd.S_drew));exact (Kd.S_mono (Kd.S_mono (Kd.S_far (p:=⟨gb390,1,none⟩) (Kd.S_far (p:=⟨gb390,0,none⟩) (Kd.S_far (p:=⟨gb389,4,none⟩) (Kd.S_far (p:=⟨gb389,3,none⟩) (Kd.S_far (p:=⟨gb389,2,none⟩) (Kd.S_far (p:=⟨gb389,1,none⟩) (Kd.S_far (p:=⟨gb389,0,none⟩) (Kd.S_types (Kd.S_types HO_372003.out BK389.out (by decide)) BK390.out (by decide)) (fun _ hk => hk.1.2) (.int .i64 t376)) (fun _ hk => hk.1.2) (.slice Ao98 t377.length co98)) (fun _ hk => hk.1.2) (.slice Ao99 t380.length co99)) (fun _ hk => hk.1.2) (.slice Ao100 t383.length co100)) (fun _ hk => hk.1.2) (.int .i64 t386)) (fun _ hk => hk.2) (.int .i64 t387)) (fun _ hk => hk.2) (.int .i64 t388)) (fun _ h_ => h_.1)) (fun _ h_ => h_.1))) hb);have n3_:=A0_.mk (Kd.R_below (by (with_reducible repeat (first|apply Kd.R_alloc|apply Kd.R_drewN|apply Kd.R_drew));exact (Kd.R_mono (Kd.R_mono (Kd.R_far (p:=⟨gb390,1,none⟩) (Kd.R_far (p:=⟨gb390,0,none⟩) (Kd.R_far (p:=⟨gb389,4,none⟩) (Kd.R_far (p:=⟨gb389,3,none⟩) (Kd.R_far (p:=⟨gb389,2,none⟩) (Kd.R_far (p:=⟨gb389,1,none⟩) (Kd.R_far (p:=⟨gb389,0,none⟩) (Kd.R_types (Kd.R_types HO379.out BK389.out (by decide)) BK390.out (by decide)) (fun _ hk => hk.1.2) (.int .i64 t376)) (fun _ hk => hk.1.2) (.slice Ao98 t377.length co98)) (fun _ hk => hk.1.2) (.slice Ao99 t380.length co99)) (fun _ hk => hk.1.2) (.slice Ao100 t383.length co100)) (fun _ hk => hk.1.2) (.int .i64 t386)) (fun _ hk => hk.2) (.int .i64 t387)) (fun _ hk => hk.2) (.int .i64 t388)) (fun _ h_ => h_.1)) (fun _ h_ => h_.1))) hb);have n4_:=A0_.mk (Kd.R_below (by (with_reducible repeat (first|apply Kd.R_alloc|apply Kd.R_drewN|apply Kd.R_drew));exact (Kd.R_mono (Kd.R_mono (Kd.R_far (p:=⟨gb390,1,none⟩) (Kd.R_far (p:=⟨gb390,0,none⟩) (Kd.R_far (p:=⟨gb389,4,none⟩) (Kd.R_far (p:=⟨gb389,3,none⟩) (Kd.R_far (p:=⟨gb389,2,none⟩) (Kd.R_far (p:=⟨gb389,1,none⟩) (Kd.R_far (p:=⟨gb389,0,none⟩) (Kd.R_types (Kd.R_types HO382.out BK389.out (by decide)) BK390.out (by decide)) (fun _ hk => hk.1.2) (.int .i64 t376)) (fun _ hk => hk.1.2) (.slice Ao98 t377.length co98)) (fun _ hk => hk.1.2) (.slice Ao99 t380.length co99)) (fun _ hk => hk.1.2) (.slice Ao100 t383.length co100)) (fun _ hk => hk.1.2) (.int .i64 t386)) (fun _ hk => hk.2) (.int .i64 t387)) (fun _ hk => hk.2) (.int .i64 t388)) (fun _ h_ => h_.1)) (fun _ h_ => h_.1))) hb);have n5_:=A0_.mk (Kd.S_below (by (with_reducible repeat (first|apply Kd.S_alloc|apply Kd.S_drewN|apply Kd.S_drew));exact (Kd.S_mono (Kd.S_mono (Kd.S_far (p:=⟨gb390,1,none⟩) (Kd.S_far (p:=⟨gb390,0,none⟩) (Kd.S_far (p:=⟨gb389,4,none⟩) (Kd.S_far (p:=⟨gb389,3,none⟩) (Kd.S_far (p:=⟨gb389,2,none⟩) (Kd.S_far (p:=⟨gb389,1,none⟩) (Kd.S_far (p:=⟨gb389,0,none⟩) (Kd.S_types (Kd.S_types HO385.out BK389.out (by decide)) BK390.out (by decide)) (fun _ hk => hk.1.2) (.int .i64 t376)) (fun _ hk => hk.1.2) (.slice Ao98 t377.length co98)) (fun _ hk => hk.1.2) (.slice Ao99 t380.length co99)) (fun _ hk => hk.1.2) (.slice Ao100 t383.length co100)) (fun _ hk => hk.1.2) (.int .i64 t386)) (fun _ hk => hk.2) (.int .i64 t387)) (fun _ hk => hk.2) (.int .i64 t388)) (fun _ h_ => h_.1)) (fun _ h_ => h_.1))) hb);have n6_:=A0_.mk (Kd.R_lower (Kd.R_newB (Kd.R_newB (Kd.R_new' (Kd.R_new' (Kd.R_new' (Kd.R_new' (Kd.R_new' (Kd.R_new' ho0 (Kd.R_lt (by (with_reducible repeat (first|apply Kd.R_alloc|apply Kd.R_drewN|apply Kd.R_drew));exact (Kd.R_mono (Kd.R_mono (Kd.R_far (p:=⟨gb390,1,none⟩) (Kd.R_far (p:=⟨gb390,0,none⟩) (Kd.R_far (p:=⟨gb389,4,none⟩) (Kd.R_far (p:=⟨gb389,3,none⟩) (Kd.R_far (p:=⟨gb389,2,none⟩) (Kd.R_far (p:=⟨gb389,1,none⟩) (Kd.R_far (p:=⟨gb389,0,none⟩) (Kd.R_types (Kd.R_types HO_372001.out BK389.out (by decide)) BK390.out (by decide)) (fun _ hk => hk.1.2) (.int .i64 t376)) (fun _ hk => hk.1.2) (.slice Ao98 t377.length co98)) (fun _ hk => hk.1.2) (.slice Ao99 t380.length co99)) (fun _ hk => hk.1.2) (.slice Ao100 t383.length co100)) (fun _ hk => hk.1.2) (.int .i64 t386)) (fun _ hk => hk.2) (.int .i64 t387)) (fun _ hk => hk.2) (.int .i64 t388)) (fun _ h_ => h_.1)) (fun _ h_ => h_.1))))) (Kd.R_lt (by (with_reducible repeat (first|apply Kd.R_alloc|apply Kd.R_drewN|apply Kd.R_drew));exact (Kd.R_mono (Kd.R_mono (Kd.R_far (p:=⟨gb390,1,none⟩) (Kd.R_far (p:=⟨gb390,0,none⟩) (Kd.R_far (p:=⟨gb389,4,none⟩) (Kd.R_far (p:=⟨gb389,3,none⟩) (Kd.R_far (p:=⟨gb389,2,none⟩) (Kd.R_far (p:=⟨gb389,1,none⟩) (Kd.R_far (p:=⟨gb389,0,none⟩) (Kd.R_types (Kd.R_types HO_372002.out BK389.out (by decide)) BK390.out (by decide)) (fun _ hk => hk.1.2) (.int .i64 t376)) (fun _ hk => hk.1.2) (.slice Ao98 t377.length co98)) (fun _ hk => hk.1.2) (.slice Ao99 t380.length co99)) (fun _ hk => hk.1.2) (.slice Ao100 t383.length co100)) (fun _ hk => hk.1.2) (.int .i64 t386)) (fun _ hk => hk.2) (.int .i64 t387)) (fun _ hk => hk.2) (.int .i64 t388)) (fun _ h_ => h_.1)) (fun _ h_ => h_.1))))) (Kd.S_lt (by (with_reducible repeat (first|apply Kd.S_alloc|apply Kd.S_drewN|apply Kd.S_drew));exact (Kd.S_mono (Kd.S_mono (Kd.S_far (p:=⟨gb390,1,none⟩) (Kd.S_far (p:=⟨gb390,0,none⟩) (Kd.S_far (p:=⟨gb389,4,none⟩) (Kd.S_far (p:=⟨gb389,3,none⟩) (Kd.S_far (p:=⟨gb389,2,none⟩) (Kd.S_far (p:=⟨gb389,1,none⟩) (Kd.S_far (p:=⟨gb389,0,none⟩) (Kd.S_types (Kd.S_types HO_372003.out BK389.out (by decide)) BK390.out (by decide)) (fun _ hk => hk.1.2) (.int .i64 t376)) (fun _ hk => hk.1.2) (.slice Ao98 t377.length co98)) (fun _ hk => hk.1.2) (.slice Ao99 t380.length co99)) (fun _ hk => hk.1.2) (.slice Ao100 t383.length co100)) (fun _ hk => hk.1.2) (.int .i64 t386)) (fun _ hk => hk.2) (.int .i64 t387)) (fun _ hk => hk.2) (.int .i64 t388)) (fun _ h_ => h_.1)) (fun _ h_ => h_.1))))) (Kd.R_lt (by (with_reducible repeat (first|apply Kd.R_alloc|apply Kd.R_drewN|apply Kd.R_drew));exact (Kd.R_mono (Kd.R_mono (Kd.R_far (p:=⟨gb390,1,none⟩) (Kd.R_far (p:=⟨gb390,0,none⟩) (Kd.R_far (p:=⟨gb389,4,none⟩) (Kd.R_far (p:=⟨gb389,3,none⟩) (Kd.R_far (p:=⟨gb389,2,none⟩) (Kd.R_far (p:=⟨gb389,1,none⟩) (Kd.R_far (p:=⟨gb389,0,none⟩) (Kd.R_types (Kd.R_types HO379.out BK389.out (by decide)) BK390.out (by decide)) (fun _ hk => hk.1.2) (.int .i64 t376)) (fun _ hk => hk.1.2) (.slice Ao98 t377.length co98)) (fun _ hk => hk.1.2) (.slice Ao99 t380.length co99)) (fun _ hk => hk.1.2) (.slice Ao100 t383.length co100)) (fun _ hk => hk.1.2) (.int .i64 t386)) (fun _ hk => hk.2) (.int .i64 t387)) (fun _ hk => hk.2) (.int .i64 t388)) (fun _ h_ => h_.1)) (fun _ h_ => h_.1))))) (Kd.R_lt (by (with_reducible repeat (first|apply Kd.R_alloc|apply Kd.R_drewN|apply Kd.R_drew));exact (Kd.R_mono (Kd.R_mono (Kd.R_far (p:=⟨gb390,1,none⟩) (Kd.R_far (p:=⟨gb390,0,none⟩) (Kd.R_far (p:=⟨gb389,4,none⟩) (Kd.R_far (p:=⟨gb389,3,none⟩) (Kd.R_far (p:=⟨gb389,2,none⟩) (Kd.R_far (p:=⟨gb389,1,none⟩) (Kd.R_far (p:=⟨gb389,0,none⟩) (Kd.R_types (Kd.R_types HO382.out BK389.out (by decide)) BK390.out (by decide)) (fun _ hk => hk.1.2) (.int .i64 t376)) (fun _ hk => hk.1.2) (.slice Ao98 t377.length co98)) (fun _ hk => hk.1.2) (.slice Ao99 t380.length co99)) (fun _ hk => hk.1.2) (.slice Ao100 t383.length co100)) (fun _ hk => hk.1.2) (.int .i64 t386)) (fun _ hk => hk.2) (.int .i64 t387)) (fun _ hk => hk.2) (.int .i64 t388)) (fun _ h_ => h_.1)) (fun _ h_ => h_.1))))) (Kd.S_lt (by (with_reducible repeat (first|apply Kd.S_alloc|apply Kd.S_drewN|apply Kd.S_drew));exact (Kd.S_mono (Kd.S_mono (Kd.S_far (p:=⟨gb390,1,none⟩) (Kd.S_far (p:=⟨gb390,0,none⟩) (Kd.S_far (p:=⟨gb389,4,none⟩) (Kd.S_far (p:=⟨gb389,3,none⟩) (Kd.S_far (p:=⟨gb389,2,none⟩) (Kd.S_far (p:=⟨gb389,1,none⟩) (Kd.S_far (p:=⟨gb389,0,none⟩) (Kd.S_types (Kd.S_types HO385.out BK389.out (by decide)) BK390.out (by decide)) (fun _ hk => hk.1.2) (.int .i64 t376)) (fun _ hk => hk.1.2) (.slice Ao98 t377.length co98)) (fun _ hk => hk.1.2) (.slice Ao99 t380.length co99)) (fun _ hk => hk.1.2) (.slice Ao100 t383.length co100)) (fun _ hk => hk.1.2) (.int .i64 t386)) (fun _ hk => hk.2) (.int .i64 t387)) (fun _ hk => hk.2) (.int .i64 t388)) (fun _ h_ => h_.1)) (fun _ h_ => h_.1))))) (g:=gb371) (o:=.cells #[.int .i64 t358,.slice Ao35 t359.length co35,.slice Ao36 t362.length co36,.slice Ao37 t365.length co37,.int .i64 t368] 28 (0,0)) (by (with_reducible repeat (first|refine bN_ ?_ _|refine bD_ ?_|refine bA_ ?_ _));refine blk_far ?_ NB371_390.out _;(with_reducible repeat (first|refine bN_ ?_ _|refine bD_ ?_|refine bA_ ?_ _));refine blk_far ?_ NB371_390.out _;(with_reducible repeat (first|refine bN_ ?_ _|refine bD_ ?_|refine bA_ ?_ _));refine blk_far ?_ NB371_389.out _;(with_reducible repeat (first|refine bN_ ?_ _|refine bD_ ?_|refine bA_ ?_ _));refine blk_far ?_ NB371_389.out _;(with_reducible repeat (first|refine bN_ ?_ _|refine bD_ ?_|refine bA_ ?_ _));refine blk_far ?_ NB371_389.out _;(with_reducible repeat (first|refine bN_ ?_ _|refine bD_ ?_|refine bA_ ?_ _));refine blk_far ?_ NB371_389.out _;(with_reducible repeat (first|refine bN_ ?_ _|refine bD_ ?_|refine bA_ ?_ _));refine blk_far ?_ NB371_389.out _;(with_reducible repeat (first|refine bN_ ?_ _|refine bD_ ?_|refine bA_ ?_ _));exact BK371.out)) (g:=gb389) (o:=.cells #[.int .i64 t376,.slice Ao98 t377.length co98,.slice Ao99 t380.length co99,.slice Ao100 t383.length co100,.int .i64 t386] 28 (0,0)) (by (with_reducible repeat (first|refine bN_ ?_ _|refine bD_ ?_|refine bA_ ?_ _));refine blk_far ?_ NB389_390.out _;(with_reducible repeat (first|refine bN_ ?_ _|refine bD_ ?_|refine bA_ ?_ _));refine blk_far ?_ NB389_390.out _;(with_reducible repeat (first|refine bN_ ?_ _|refine bD_ ?_|refine bA_ ?_ _));refine blk_put (cs:=#[.int .i64 t376,.slice Ao98 t377.length co98,.slice Ao99 t380.length co99,.slice Ao100 t383.length co100,.int .i64 0]) ?_ 4 _ rfl;(with_reducible repeat (first|refine bN_ ?_ _|refine bD_ ?_|refine bA_ ?_ _));refine blk_put (cs:=#[.int .i64 t376,.slice Ao98 t377.length co98,.slice Ao99 t380.length co99,.slice none 0 0,.int .i64 0]) ?_ 3 _ rfl;(with_reducible repeat (first|refine bN_ ?_ _|refine bD_ ?_|refine bA_ ?_ _));refine blk_put (cs:=#[.int .i64 t376,.slice Ao98 t377.length co98,.slice none 0 0,.slice none 0 0,.int .i64 0]) ?_ 2 _ rfl;(with_reducible repeat (first|refine bN_ ?_ _|refine bD_ ?_|refine bA_ ?_ _));refine blk_put (cs:=#[.int .i64 t376,.slice none 0 0,.slice none 0 0,.slice none 0 0,.int .i64 0]) ?_ 1 _ rfl;(with_reducible repeat (first|refine bN_ ?_ _|refine bD_ ?_|refine bA_ ?_ _));refine blk_put (cs:=#[.int .i64 0,.slice none 0 0,.slice none 0 0,.slice none 0 0,.int .i64 0]) ?_ 0 _ rfl;(with_reducible repeat (first|refine bN_ ?_ _|refine bD_ ?_|refine bA_ ?_ _));exact BK389.out)) (below_size (by repeat (first|(with_reducible first|exact HB.out|apply eA_|apply eN_|apply eD_|refine eS_ ?_ GE356.out|refine eS_ ?_ GE371.out|refine eS_ ?_ GE372.out|refine eS_ ?_ GE389.out|refine eS_ ?_ GE390.out)|exact HB.out))));have n7_:=A0_.mk (blk_below (g:=gb356) (o:=.cells #[.int .i64 a2_0,.int .i64 a2_1] 30 (0,0)) (by (with_reducible repeat (first|refine bN_ ?_ _|refine bD_ ?_|refine bA_ ?_ _));refine blk_far ?_ NB356_390.out _;(with_reducible repeat (first|refine bN_ ?_ _|refine bD_ ?_|refine bA_ ?_ _));refine blk_far ?_ NB356_390.out _;(with_reducible repeat (first|refine bN_ ?_ _|refine bD_ ?_|refine bA_ ?_ _));refine blk_far ?_ NB356_389.out _;(with_reducible repeat (first|refine bN_ ?_ _|refine bD_ ?_|refine bA_ ?_ _));refine blk_far ?_ NB356_389.out _;(with_reducible repeat (first|refine bN_ ?_ _|refine bD_ ?_|refine bA_ ?_ _));refine blk_far ?_ NB356_389.out _;(with_reducible repeat (first|refine bN_ ?_ _|refine bD_ ?_|refine bA_ ?_ _));refine blk_far ?_ NB356_389.out _;(with_reducible repeat (first|refine bN_ ?_ _|refine bD_ ?_|refine bA_ ?_ _));refine blk_far ?_ NB356_389.out _;(with_reducible repeat (first|refine bN_ ?_ _|refine bD_ ?_|refine bA_ ?_ _));exact BK356.out) hb);have n8_:=A0_.mk (blk_below (g:=gb371) (o:=.cells #[.int .i64 t358,.slice Ao35 t359.length co35,.slice Ao36 t362.length co36,.slice Ao37 t365.length co37,.int .i64 t368] 28 (0,0)) (by (with_reducible repeat (first|refine bN_ ?_ _|refine bD_ ?_|refine bA_ ?_ _));refine blk_far ?_ NB371_390.out _;(with_reducible repeat (first|refine bN_ ?_ _|refine bD_ ?_|refine bA_ ?_ _));refine blk_far ?_ NB371_390.out _;(with_reducible repeat (first|refine bN_ ?_ _|refine bD_ ?_|refine bA_ ?_ _));refine blk_far ?_ NB371_389.out _;(with_reducible repeat (first|refine bN_ ?_ _|refine bD_ ?_|refine bA_ ?_ _));refine blk_far ?_ NB371_389.out _;(with_reducible repeat (first|refine bN_ ?_ _|refine bD_ ?_|refine bA_ ?_ _));refine blk_far ?_ NB371_389.out _;(with_reducible repeat (first|refine bN_ ?_ _|refine bD_ ?_|refine bA_ ?_ _));refine blk_far ?_ NB371_389.out _;(with_reducible repeat (first|refine bN_ ?_ _|refine bD_ ?_|refine bA_ ?_ _));refine blk_far ?_ NB371_389.out _;(with_reducible repeat (first|refine bN_ ?_ _|refine bD_ ?_|refine bA_ ?_ _));exact BK371.out) hb);have n9_:=A0_.mk (blk_below (g:=gb372) (o:=.cells #[.int .i64 t369,.int .i64 t370] 40 (0,0)) (by (with_reducible repeat (first|refine bN_ ?_ _|refine bD_ ?_|refine bA_ ?_ _));refine blk_far ?_ NB372_390.out _;(with_reducible repeat (first|refine bN_ ?_ _|refine bD_ ?_|refine bA_ ?_ _));refine blk_far ?_ NB372_390.out _;(with_reducible repeat (first|refine bN_ ?_ _|refine bD_ ?_|refine bA_ ?_ _));refine blk_far ?_ NB372_389.out _;(with_reducible repeat (first|refine bN_ ?_ _|refine bD_ ?_|refine bA_ ?_ _));refine blk_far ?_ NB372_389.out _;(with_reducible repeat (first|refine bN_ ?_ _|refine bD_ ?_|refine bA_ ?_ _));refine blk_far ?_ NB372_389.out _;(with_reducible repeat (first|refine bN_ ?_ _|refine bD_ ?_|refine bA_ ?_ _));refine blk_far ?_ NB372_389.out _;(with_reducible repeat (first|refine bN_ ?_ _|refine bD_ ?_|refine bA_ ?_ _));refine blk_far ?_ NB372_389.out _;(with_reducible repeat (first|refine bN_ ?_ _|refine bD_ ?_|refine bA_ ?_ _));exact BK372.out) hb);have n10_:=A0_.mk (blk_below (g:=gb389) (o:=.cells #[.int .i64 t376,.slice Ao98 t377.length co98,.slice Ao99 t380.length co99,.slice Ao100 t383.length co100,.int .i64 t386] 28 (0,0)) (by (with_reducible repeat (first|refine bN_ ?_ _|refine bD_ ?_|refine bA_ ?_ _));refine blk_far ?_ NB389_390.out _;(with_reducible repeat (first|refine bN_ ?_ _|refine bD_ ?_|refine bA_ ?_ _));refine blk_far ?_ NB389_390.out _;(with_reducible repeat (first|refine bN_ ?_ _|refine bD_ ?_|refine bA_ ?_ _));refine blk_put (cs:=#[.int .i64 t376,.slice Ao98 t377.length co98,.slice Ao99 t380.length co99,.slice Ao100 t383.length co100,.int .i64 0]) ?_ 4 _ rfl;(with_reducible repeat (first|refine bN_ ?_ _|refine bD_ ?_|refine bA_ ?_ _));refine blk_put (cs:=#[.int .i64 t376,.slice Ao98 t377.length co98,.slice Ao99 t380.length co99,.slice none 0 0,.int .i64 0]) ?_ 3 _ rfl;(with_reducible repeat (first|refine bN_ ?_ _|refine bD_ ?_|refine bA_ ?_ _));refine blk_put (cs:=#[.int .i64 t376,.slice Ao98 t377.length co98,.slice none 0 0,.slice none 0 0,.int .i64 0]) ?_ 2 _ rfl;(with_reducible repeat (first|refine bN_ ?_ _|refine bD_ ?_|refine bA_ ?_ _));refine blk_put (cs:=#[.int .i64 t376,.slice none 0 0,.slice none 0 0,.slice none 0 0,.int .i64 0]) ?_ 1 _ rfl;(with_reducible repeat (first|refine bN_ ?_ _|refine bD_ ?_|refine bA_ ?_ _));refine blk_put (cs:=#[.int .i64 0,.slice none 0 0,.slice none 0 0,.slice none 0 0,.int .i64 0]) ?_ 0 _ rfl;(with_reducible repeat (first|refine bN_ ?_ _|refine bD_ ?_|refine bA_ ?_ _));exact BK389.out) hb);have n11_:=A0_.mk (blk_below (g:=gb390) (o:=.cells #[.int .i64 t387,.int .i64 t388] 40 (0,0)) (by (with_reducible repeat (first|refine bN_ ?_ _|refine bD_ ?_|refine bA_ ?_ _));refine blk_put (cs:=#[.int .i64 t387,.int .i64 0]) ?_ 1 _ rfl;(with_reducible repeat (first|refine bN_ ?_ _|refine bD_ ?_|refine bA_ ?_ _));refine blk_put (cs:=#[.int .i64 0,.int .i64 0]) ?_ 0 _ rfl;(with_reducible repeat (first|refine bN_ ?_ _|refine bD_ ?_|refine bA_ ?_ _));refine blk_far ?_ NB390_389.out _;(with_reducible repeat (first|refine bN_ ?_ _|refine bD_ ?_|refine bA_ ?_ _));refine blk_far ?_ NB390_389.out _;(with_reducible repeat (first|refine bN_ ?_ _|refine bD_ ?_|refine bA_ ?_ _));refine blk_far ?_ NB390_389.out _;(with_reducible repeat (first|refine bN_ ?_ _|refine bD_ ?_|refine bA_ ?_ _));refine blk_far ?_ NB390_389.out _;(with_reducible repeat (first|refine bN_ ?_ _|refine bD_ ?_|refine bA_ ?_ _));refine blk_far ?_ NB390_389.out _;(with_reducible repeat (first|refine bN_ ?_ _|refine bD_ ?_|refine bA_ ?_ _));exact BK390.out) hb);have n12_:=A0_.mk (below_step (by repeat (first|(with_reducible first|exact HB.out|apply eA_|apply eN_|apply eD_|refine eS_ ?_ GE356.out|refine eS_ ?_ GE371.out|refine eS_ ?_ GE372.out|refine eS_ ?_ GE389.out|refine eS_ ?_ GE390.out)|exact HB.out)) hb);clear HO_372001;clear HO_372002;clear HO_372003;clear HO379;clear HO382;clear HO385;clear BK356;clear BK371;clear BK372;clear BK389;clear BK390;clear HB;have HO_372001:=n0_;have HO_372002:=n1_;have HO_372003:=n2_;have HO379:=n3_;have HO382:=n4_;have HO385:=n5_;have HO393:=n6_;have BK356:=n7_;have BK371:=n8_;have BK372:=n9_;have BK389:=n10_;have BK390:=n11_;have HB:=n12_;clear n0_ n1_ n2_ n3_ n4_ n5_ n6_ n7_ n8_ n9_ n10_ n11_ n12_;(try clear hb);(try clear hb2);(try clear hk);(try clear hi);(try clear ho0))|((with_reducible refine gate_dst (N:=16) rfl ?_);(try (refine gate_guard (by rfl) ?_;dsimp only));refine box_event ?hg (N:=16) ?hd (cs:=#[.int .i64 0,.int .i64 0]) (t:=40) ?hr ?_;(case hd => rfl);(case hg => rfl);(case hr => first|(go_simp;done)|(go_simp;rfl));intro gb396 hg w107 hbox hb;have n0_:=A0_.mk (Kd.R_below (by (with_reducible repeat (first|apply Kd.R_alloc|apply Kd.R_drewN|apply Kd.R_drew));exact HO_372001.out) hb);have n1_:=A0_.mk (Kd.R_below (by (with_reducible repeat (first|apply Kd.R_alloc|apply Kd.R_drewN|apply Kd.R_drew));exact HO_372002.out) hb);have n2_:=A0_.mk (Kd.S_below (by (with_reducible repeat (first|apply Kd.S_alloc|apply Kd.S_drewN|apply Kd.S_drew));exact HO_372003.out) hb);have n3_:=A0_.mk (Kd.R_below (by (with_reducible repeat (first|apply Kd.R_alloc|apply Kd.R_drewN|apply Kd.R_drew));exact HO379.out) hb);have n4_:=A0_.mk (Kd.R_below (by (with_reducible repeat (first|apply Kd.R_alloc|apply Kd.R_drewN|apply Kd.R_drew));exact HO382.out) hb);have n5_:=A0_.mk (Kd.S_below (by (with_reducible repeat (first|apply Kd.S_alloc|apply Kd.S_drewN|apply Kd.S_drew));exact HO385.out) hb);have n6_:=A0_.mk (Kd.R_below (by (with_reducible repeat (first|apply Kd.R_alloc|apply Kd.R_drewN|apply Kd.R_drew));exact HO393.out) hb);have n7_:=A0_.mk (blk_below (g:=gb356) (o:=.cells #[.int .i64 a2_0,.int .i64 a2_1] 30 (0,0)) (by (with_reducible repeat (first|refine bN_ ?_ _|refine bD_ ?_|refine bA_ ?_ _));exact BK356.out) hb);have n8_:=A0_.mk (blk_below (g:=gb371) (o:=.cells #[.int .i64 t358,.slice Ao35 t359.length co35,.slice Ao36 t362.length co36,.slice Ao37 t365.length co37,.int .i64 t368] 28 (0,0)) (by (with_reducible repeat (first|refine bN_ ?_ _|refine bD_ ?_|refine bA_ ?_ _));exact BK371.out) hb);have n9_:=A0_.mk (blk_below (g:=gb372) (o:=.cells #[.int .i64 t369,.int .i64 t370] 40 (0,0)) (by (with_reducible repeat (first|refine bN_ ?_ _|refine bD_ ?_|refine bA_ ?_ _));exact BK372.out) hb);have n10_:=A0_.mk (blk_below (g:=gb389) (o:=.cells #[.int .i64 t376,.slice Ao98 t377.length co98,.slice Ao99 t380.length co99,.slice Ao100 t383.length co100,.int .i64 t386] 28 (0,0)) (by (with_reducible repeat (first|refine bN_ ?_ _|refine bD_ ?_|refine bA_ ?_ _));exact BK389.out) hb);have n11_:=A0_.mk (blk_below (g:=gb390) (o:=.cells #[.int .i64 t387,.int .i64 t388] 40 (0,0)) (by (with_reducible repeat (first|refine bN_ ?_ _|refine bD_ ?_|refine bA_ ?_ _));exact BK390.out) hb);have n12_:=A0_.mk (below_step (by repeat (first|(with_reducible first|exact HB.out|apply eA_|apply eN_|apply eD_|refine eS_ ?_ GE356.out|refine eS_ ?_ GE371.out|refine eS_ ?_ GE372.out|refine eS_ ?_ GE389.out|refine eS_ ?_ GE390.out)|exact HB.out)) hb);have n13_:=A0_.mk (hbox);have n14_:=A0_.mk ((by rw [hg];exact (below_size (by repeat (first|(with_reducible first|exact HB.out|apply eA_|apply eN_|apply eD_|refine eS_ ?_ GE356.out|refine eS_ ?_ GE371.out|refine eS_ ?_ GE372.out|refine eS_ ?_ GE389.out|refine eS_ ?_ GE390.out)|exact HB.out))) : w.heap.size ≤ gb396));have n15_:=A0_.mk ((by rw [hg];exact (below_size (by repeat (first|(with_reducible first|exact HB.out|apply eA_|apply eN_|apply eD_|refine eS_ ?_ GE356.out|refine eS_ ?_ GE371.out|refine eS_ ?_ GE372.out|refine eS_ ?_ GE389.out|refine eS_ ?_ GE390.out)|exact HB.out))) : w.heap.size ≤ gb396));have n16_:=A0_.mk ((by rw [hg];exact Nat.ne_of_lt (blk_lt (g:=gb356) (o:=.cells #[.int .i64 a2_0,.int .i64 a2_1] 30 (0,0)) (by (with_reducible repeat (first|refine bN_ ?_ _|refine bD_ ?_|refine bA_ ?_ _));exact BK356.out)) : gb356 ≠ gb396));have n17_:=A0_.mk ((by rw [hg];exact Nat.ne_of_gt (blk_lt (g:=gb356) (o:=.cells #[.int .i64 a2_0,.int .i64 a2_1] 30 (0,0)) (by (with_reducible repeat (first|refine bN_ ?_ _|refine bD_ ?_|refine bA_ ?_ _));exact BK356.out)) : gb396 ≠ gb356));have n18_:=A0_.mk ((by rw [hg];exact Nat.ne_of_lt (blk_lt (g:=gb371) (o:=.cells #[.int .i64 t358,.slice Ao35 t359.length co35,.slice Ao36 t362.length co36,.slice Ao37 t365.length co37,.int .i64 t368] 28 (0,0)) (by (with_reducible repeat (first|refine bN_ ?_ _|refine bD_ ?_|refine bA_ ?_ _));exact BK371.out)) : gb371 ≠ gb396));have n19_:=A0_.mk ((by rw [hg];exact Nat.ne_of_gt (blk_lt (g:=gb371) (o:=.cells #[.int .i64 t358,.slice Ao35 t359.length co35,.slice Ao36 t362.length co36,.slice Ao37 t365.length co37,.int .i64 t368] 28 (0,0)) (by (with_reducible repeat (first|refine bN_ ?_ _|refine bD_ ?_|refine bA_ ?_ _));exact BK371.out)) : gb396 ≠ gb371));have n20_:=A0_.mk ((by rw [hg];exact Nat.ne_of_lt (blk_lt (g:=gb372) (o:=.cells #[.int .i64 t369,.int .i64 t370] 40 (0,0)) (by (with_reducible repeat (first|refine bN_ ?_ _|refine bD_ ?_|refine bA_ ?_ _));exact BK372.out)) : gb372 ≠ gb396));have n21_:=A0_.mk ((by rw [hg];exact Nat.ne_of_gt (blk_lt (g:=gb372) (o:=.cells #[.int .i64 t369,.int .i64 t370] 40 (0,0)) (by (with_reducible repeat (first|refine bN_ ?_ _|refine bD_ ?_|refine bA_ ?_ _));exact BK372.out)) : gb396 ≠ gb372));have n22_:=A0_.mk ((by rw [hg];exact Nat.ne_of_lt (blk_lt (g:=gb389) (o:=.cells #[.int .i64 t376,.slice Ao98 t377.length co98,.slice Ao99 t380.length co99,.slice Ao100 t383.length co100,.int .i64 t386] 28 (0,0)) (by (with_reducible repeat (first|refine bN_ ?_ _|refine bD_ ?_|refine bA_ ?_ _));exact BK389.out)) : gb389 ≠ gb396));have n23_:=A0_.mk ((by rw [hg];exact Nat.ne_of_gt (blk_lt (g:=gb389) (o:=.cells #[.int .i64 t376,.slice Ao98 t377.length co98,.slice Ao99 t380.length co99,.slice Ao100 t383.length co100,.int .i64 t386] 28 (0,0)) (by (with_reducible repeat (first|refine bN_ ?_ _|refine bD_ ?_|refine bA_ ?_ _));exact BK389.out)) : gb396 ≠ gb389));have n24_:=A0_.mk ((by rw [hg];exact Nat.ne_of_lt (blk_lt (g:=gb390) (o:=.cells #[.int .i64 t387,.int .i64 t388] 40 (0,0)) (by (with_reducible repeat (first|refine bN_ ?_ _|refine bD_ ?_|refine bA_ ?_ _));exact BK390.out)) : gb390 ≠ gb396));have n25_:=A0_.mk ((by rw [hg];exact Nat.ne_of_gt (blk_lt (g:=gb390) (o:=.cells #[.int .i64 t387,.int .i64 t388] 40 (0,0)) (by (with_reducible repeat (first|refine bN_ ?_ _|refine bD_ ?_|refine bA_ ?_ _));exact BK390.out)) : gb396 ≠ gb390));clear HO_372001;clear HO_372002;clear HO_372003;clear HO379;clear HO382;clear HO385;clear HO393;clear BK356;clear BK371;clear BK372;clear BK389;clear BK390;clear HB;have HO_372001:=n0_;have HO_372002:=n1_;have HO_372003:=n2_;have HO379:=n3_;have HO382:=n4_;have HO385:=n5_;have HO393:=n6_;have BK356:=n7_;have BK371:=n8_;have BK372:=n9_;have BK389:=n10_;have BK390:=n11_;have HB:=n12_;have BK396:=n13_;have GW396:=n14_;have GE396:=n15_;have NB356_396:=n16_;have NB396_356:=n17_;have NB371_396:=n18_;have NB396_371:=n19_;have NB372_396:=n20_;have NB396_372:=n21_;have NB389_396:=n22_;have NB396_389:=n23_;have NB390_396:=n24_;have NB396_390:=n25_;clear n0_ n1_ n2_ n3_ n4_ n5_ n6_ n7_ n8_ n9_ n10_ n11_ n12_ n13_ n14_ n15_ n16_ n17_ n18_ n19_ n20_ n21_ n22_ n23_ n24_ n25_;clear hb hbox hg;have hnb108:=NB396_356.out;have hnc108:=NB356_396.out;have hnb109:=NB396_371.out;have hnc109:=NB371_396.out;have hnb110:=NB396_372.out;have hnc110:=NB372_396.out;have hnb111:=NB396_389.out;have hnc111:=NB389_396.out;have hnb112:=NB396_390.out;have hnc112:=NB390_396.out;have hcz113_0 : w107.cell? ⟨gb396,0,none⟩ = some (.int .i64 0):=(bC_ BK396.out 0).trans rfl;have hcz113_1 : w107.cell? ⟨gb396,1,none⟩ = some (.int .i64 0):=(bC_ BK396.out 1).trans rfl;have hfz113_0:=bF_ BK396.out 0;have hfz113_1:=bF_ BK396.out 1))
          (try simp only [Act.put,List.setIfInBounds_toArray,List.set_cons_zero,List.set_cons_succ])
          go_cut [131] (fun v131 wc => ∃ (kq : Nat) (x131_85 : Bool),v131 = .bool x131_85 ∧ A0_ (trestlelaw12_StimForth.j2 kq t391 x131_85 t358 t359 t362 t365 t368 t376 t377 t380 t383 t386 t394 t395 = some r) ∧ A0_ (kq ≤ kj45) ∧ A0_ (Kd.R k28 28 wc w.heap.size (fun k_ => some k_ ≠ ((.slice Ao35 t359.length co35) : Value).ownBlock ∧ some k_ ≠ ((.slice Ao36 t362.length co36) : Value).ownBlock ∧ some k_ ≠ ((.slice Ao37 t365.length co37) : Value).ownBlock ∧ some k_ ≠ ((.slice Ao98 t377.length co98) : Value).ownBlock ∧ some k_ ≠ ((.slice Ao99 t380.length co99) : Value).ownBlock ∧ some k_ ≠ ((.slice Ao100 t383.length co100) : Value).ownBlock ∧ k_ ≠ gb371 ∧ k_ ≠ gb389) v392 t391) ∧ A0_ (Kd.R k83 83 wc w.heap.size (fun k_ => some k_ ≠ ((.slice Ao98 t377.length co98) : Value).ownBlock) (.slice Ao35 t359.length co35) t359) ∧ A0_ (Kd.R Kd.bool 4 wc w.heap.size (fun k_ => some k_ ≠ ((.slice Ao99 t380.length co99) : Value).ownBlock) (.slice Ao36 t362.length co36) t362) ∧ A0_ (Kd.S (Kd.slice 4 Kd.bool) 23 wc w.heap.size (fun k_ => some k_ ≠ ((.slice Ao36 t362.length co36) : Value).ownBlock ∧ some k_ ≠ ((.slice Ao99 t380.length co99) : Value).ownBlock ∧ some k_ ≠ ((.slice Ao100 t383.length co100) : Value).ownBlock) (.slice Ao37 t365.length co37) t365) ∧ A0_ (Kd.R k83 83 wc w.heap.size (fun k_ => some k_ ≠ ((.slice Ao35 t359.length co35) : Value).ownBlock) (.slice Ao98 t377.length co98) t377) ∧ A0_ (Kd.R Kd.bool 4 wc w.heap.size (fun k_ => some k_ ≠ ((.slice Ao36 t362.length co36) : Value).ownBlock) (.slice Ao99 t380.length co99) t380) ∧ A0_ (Kd.S (Kd.slice 4 Kd.bool) 23 wc w.heap.size (fun k_ => some k_ ≠ ((.slice Ao36 t362.length co36) : Value).ownBlock ∧ some k_ ≠ ((.slice Ao37 t365.length co37) : Value).ownBlock ∧ some k_ ≠ ((.slice Ao99 t380.length co99) : Value).ownBlock) (.slice Ao100 t383.length co100) t383) ∧ A0_ (wc.heap[gb356]? = some (.cells #[.int .i64 a2_0,.int .i64 a2_1] 30 (0,0))) ∧ A0_ (wc.heap[gb371]? = some (.cells #[.int .i64 t358,(.slice Ao35 t359.length co35),(.slice Ao36 t362.length co36),(.slice Ao37 t365.length co37),.int .i64 t368] 28 (0,0))) ∧ A0_ (wc.heap[gb372]? = some (.cells #[.int .i64 t369,.int .i64 t370] 40 (0,0))) ∧ A0_ (wc.heap[gb389]? = some (.cells #[.int .i64 t376,(.slice Ao98 t377.length co98),(.slice Ao99 t380.length co99),(.slice Ao100 t383.length co100),.int .i64 t386] 28 (0,0))) ∧ A0_ (wc.heap[gb390]? = some (.cells #[.int .i64 t387,.int .i64 t388] 40 (0,0))) ∧ A0_ (wc.heap[gb396]? = some (.cells #[.int .i64 t394,.int .i64 t395] 40 (0,0))) ∧ A0_ (Below w.heap.size w wc))
          case first =>
           have H:=HC86.out
           clear HC86
           by_cases c114 : (!(t387 == 0) || (!(t388 == 0))) = true
           ·rw [if_pos c114] at H
            have c114b0 : (!(t387 == 0) || (!(t388 == 0))) = true:=c114
            clear c114
            (first|rw [c114b0]|(simp only [i64_w,i32_w];rw [c114b0])|skip)
            have H':=A0_.mk H
            clear H
            have hnb115:=NB390_356.out
            have hnc115:=NB356_390.out
            have hnb116:=NB390_371.out
            have hnc116:=NB371_390.out
            have hnb117:=NB390_372.out
            have hnc117:=NB372_390.out
            have hnb118:=NB390_389.out
            have hnc118:=NB389_390.out
            have hnb119:=NB390_396.out
            have hnc119:=NB396_390.out
            have hcz120_0 : w107.cell? ⟨gb390,0,none⟩ = some (.int .i64 t387):=(bC_ BK390.out 0).trans rfl
            have hcz120_1 : w107.cell? ⟨gb390,1,none⟩ = some (.int .i64 t388):=(bC_ BK390.out 1).trans rfl
            have hfz120_0:=bF_ BK390.out 0
            have hfz120_1:=bF_ BK390.out 1
            go_wp2
            go_meet
            case rel => exact ⟨_,(true),(by first|rfl|(simp;done)|(simp [*];done)),H',⟨by have:=HK1.out;have:=HJ45.out;first|omega|exact Nat.le_refl _⟩,⟨by (with_reducible repeat (first|apply Kd.R_alloc|apply Kd.R_drewN|apply Kd.R_drew));exact Kd.R_mono (Kd.R_far (p:=⟨gb396,1,none⟩) (Kd.R_far (p:=⟨gb396,0,none⟩) (Kd.R_types HO393.out BK396.out (by decide)) (fun _ hk => hk.2) (.int .i64 t394)) (fun _ hk => hk.2) (.int .i64 t395)) (fun _ hk => ⟨hk.1.1.1.1.1.1.1.1.2,⟨hk.1.1.1.1.1.1.1.2,⟨hk.1.1.1.1.1.1.2,⟨hk.1.1.1.1.1.2,⟨hk.1.1.1.1.2,⟨hk.1.1.1.2,⟨hk.1.1.2,hk.1.2⟩⟩⟩⟩⟩⟩⟩)⟩,⟨by (with_reducible repeat (first|apply Kd.R_alloc|apply Kd.R_drewN|apply Kd.R_drew));exact Kd.R_mono (Kd.R_far (p:=⟨gb396,1,none⟩) (Kd.R_far (p:=⟨gb396,0,none⟩) (Kd.R_types HO_372001.out BK396.out (by decide)) (fun _ hk => hk.2) (.int .i64 t394)) (fun _ hk => hk.2) (.int .i64 t395)) (fun _ hk => hk.1.2)⟩,⟨by (with_reducible repeat (first|apply Kd.R_alloc|apply Kd.R_drewN|apply Kd.R_drew));exact Kd.R_mono (Kd.R_far (p:=⟨gb396,1,none⟩) (Kd.R_far (p:=⟨gb396,0,none⟩) (Kd.R_types HO_372002.out BK396.out (by decide)) (fun _ hk => hk.2) (.int .i64 t394)) (fun _ hk => hk.2) (.int .i64 t395)) (fun _ hk => hk.1.2)⟩,⟨by (with_reducible repeat (first|apply Kd.S_alloc|apply Kd.S_drewN|apply Kd.S_drew));exact Kd.S_mono (Kd.S_far (p:=⟨gb396,1,none⟩) (Kd.S_far (p:=⟨gb396,0,none⟩) (Kd.S_types HO_372003.out BK396.out (by decide)) (fun _ hk => hk.2) (.int .i64 t394)) (fun _ hk => hk.2) (.int .i64 t395)) (fun _ hk => ⟨hk.1.1.1,⟨hk.1.1.2,hk.1.2⟩⟩)⟩,⟨by (with_reducible repeat (first|apply Kd.R_alloc|apply Kd.R_drewN|apply Kd.R_drew));exact Kd.R_mono (Kd.R_far (p:=⟨gb396,1,none⟩) (Kd.R_far (p:=⟨gb396,0,none⟩) (Kd.R_types HO379.out BK396.out (by decide)) (fun _ hk => hk.2) (.int .i64 t394)) (fun _ hk => hk.2) (.int .i64 t395)) (fun _ hk => hk.1.2)⟩,⟨by (with_reducible repeat (first|apply Kd.R_alloc|apply Kd.R_drewN|apply Kd.R_drew));exact Kd.R_mono (Kd.R_far (p:=⟨gb396,1,none⟩) (Kd.R_far (p:=⟨gb396,0,none⟩) (Kd.R_types HO382.out BK396.out (by decide)) (fun _ hk => hk.2) (.int .i64 t394)) (fun _ hk => hk.2) (.int .i64 t395)) (fun _ hk => hk.1.2)⟩,⟨by (with_reducible repeat (first|apply Kd.S_alloc|apply Kd.S_drewN|apply Kd.S_drew));exact Kd.S_mono (Kd.S_far (p:=⟨gb396,1,none⟩) (Kd.S_far (p:=⟨gb396,0,none⟩) (Kd.S_types HO385.out BK396.out (by decide)) (fun _ hk => hk.2) (.int .i64 t394)) (fun _ hk => hk.2) (.int .i64 t395)) (fun _ hk => ⟨hk.1.1.2,⟨hk.1.2,hk.1.1.1⟩⟩)⟩,⟨by (with_reducible repeat (first|refine bN_ ?_ _|refine bD_ ?_|refine bA_ ?_ _));refine blk_far ?_ NB356_396.out _;(with_reducible repeat (first|refine bN_ ?_ _|refine bD_ ?_|refine bA_ ?_ _));refine blk_far ?_ NB356_396.out _;(with_reducible repeat (first|refine bN_ ?_ _|refine bD_ ?_|refine bA_ ?_ _));exact BK356.out⟩,⟨by (with_reducible repeat (first|refine bN_ ?_ _|refine bD_ ?_|refine bA_ ?_ _));refine blk_far ?_ NB371_396.out _;(with_reducible repeat (first|refine bN_ ?_ _|refine bD_ ?_|refine bA_ ?_ _));refine blk_far ?_ NB371_396.out _;(with_reducible repeat (first|refine bN_ ?_ _|refine bD_ ?_|refine bA_ ?_ _));exact BK371.out⟩,⟨by (with_reducible repeat (first|refine bN_ ?_ _|refine bD_ ?_|refine bA_ ?_ _));refine blk_far ?_ NB372_396.out _;(with_reducible repeat (first|refine bN_ ?_ _|refine bD_ ?_|refine bA_ ?_ _));refine blk_far ?_ NB372_396.out _;(with_reducible repeat (first|refine bN_ ?_ _|refine bD_ ?_|refine bA_ ?_ _));exact BK372.out⟩,⟨by (with_reducible repeat (first|refine bN_ ?_ _|refine bD_ ?_|refine bA_ ?_ _));refine blk_far ?_ NB389_396.out _;(with_reducible repeat (first|refine bN_ ?_ _|refine bD_ ?_|refine bA_ ?_ _));refine blk_far ?_ NB389_396.out _;(with_reducible repeat (first|refine bN_ ?_ _|refine bD_ ?_|refine bA_ ?_ _));exact BK389.out⟩,⟨by (with_reducible repeat (first|refine bN_ ?_ _|refine bD_ ?_|refine bA_ ?_ _));refine blk_far ?_ NB390_396.out _;(with_reducible repeat (first|refine bN_ ?_ _|refine bD_ ?_|refine bA_ ?_ _));refine blk_far ?_ NB390_396.out _;(with_reducible repeat (first|refine bN_ ?_ _|refine bD_ ?_|refine bA_ ?_ _));exact BK390.out⟩,⟨by (with_reducible repeat (first|refine bN_ ?_ _|refine bD_ ?_|refine bA_ ?_ _));refine blk_put (cs:=#[.int .i64 t394,.int .i64 0]) ?_ 1 _ rfl;(with_reducible repeat (first|refine bN_ ?_ _|refine bD_ ?_|refine bA_ ?_ _));refine blk_put (cs:=#[.int .i64 0,.int .i64 0]) ?_ 0 _ rfl;(with_reducible repeat (first|refine bN_ ?_ _|refine bD_ ?_|refine bA_ ?_ _));exact BK396.out⟩,⟨by repeat (first|(with_reducible first|exact HB.out|apply eA_|apply eN_|apply eD_|refine eS_ ?_ GE356.out|refine eS_ ?_ GE371.out|refine eS_ ?_ GE372.out|refine eS_ ?_ GE389.out|refine eS_ ?_ GE390.out|refine eS_ ?_ GE396.out)|exact HB.out)⟩⟩
           ·rw [if_neg c114] at H
            have c114b0 : (!(t387 == 0) || (!(t388 == 0))) = false:=by simpa using c114
            clear c114
            (first|rw [c114b0]|(simp only [i64_w,i32_w];rw [c114b0])|skip)
            have H':=A0_.mk H
            clear H
            have hnb121:=NB390_356.out
            have hnc121:=NB356_390.out
            have hnb122:=NB390_371.out
            have hnc122:=NB371_390.out
            have hnb123:=NB390_372.out
            have hnc123:=NB372_390.out
            have hnb124:=NB390_389.out
            have hnc124:=NB389_390.out
            have hnb125:=NB390_396.out
            have hnc125:=NB396_390.out
            have hcz126_0 : w107.cell? ⟨gb390,0,none⟩ = some (.int .i64 t387):=(bC_ BK390.out 0).trans rfl
            have hcz126_1 : w107.cell? ⟨gb390,1,none⟩ = some (.int .i64 t388):=(bC_ BK390.out 1).trans rfl
            have hfz126_0:=bF_ BK390.out 0
            have hfz126_1:=bF_ BK390.out 1
            go_wp2
            go_meet
            case rel => exact ⟨_,(decide ((wrap64 ((a0.size : Int) + (a1.size : Int))) > 262144)),(by first|rfl|(simp;done)|(simp [*];done)|(have e_ : wrap64 ((a0.size : Int) + (a1.size : Int)) = (a0.size : Int) + (a1.size : Int):=(by unfold wrap64;omega);rw [e_])),H',⟨by have:=HK1.out;have:=HJ45.out;first|omega|exact Nat.le_refl _⟩,⟨by (with_reducible repeat (first|apply Kd.R_alloc|apply Kd.R_drewN|apply Kd.R_drew));exact Kd.R_mono (Kd.R_far (p:=⟨gb396,1,none⟩) (Kd.R_far (p:=⟨gb396,0,none⟩) (Kd.R_types HO393.out BK396.out (by decide)) (fun _ hk => hk.2) (.int .i64 t394)) (fun _ hk => hk.2) (.int .i64 t395)) (fun _ hk => ⟨hk.1.1.1.1.1.1.1.1.2,⟨hk.1.1.1.1.1.1.1.2,⟨hk.1.1.1.1.1.1.2,⟨hk.1.1.1.1.1.2,⟨hk.1.1.1.1.2,⟨hk.1.1.1.2,⟨hk.1.1.2,hk.1.2⟩⟩⟩⟩⟩⟩⟩)⟩,⟨by (with_reducible repeat (first|apply Kd.R_alloc|apply Kd.R_drewN|apply Kd.R_drew));exact Kd.R_mono (Kd.R_far (p:=⟨gb396,1,none⟩) (Kd.R_far (p:=⟨gb396,0,none⟩) (Kd.R_types HO_372001.out BK396.out (by decide)) (fun _ hk => hk.2) (.int .i64 t394)) (fun _ hk => hk.2) (.int .i64 t395)) (fun _ hk => hk.1.2)⟩,⟨by (with_reducible repeat (first|apply Kd.R_alloc|apply Kd.R_drewN|apply Kd.R_drew));exact Kd.R_mono (Kd.R_far (p:=⟨gb396,1,none⟩) (Kd.R_far (p:=⟨gb396,0,none⟩) (Kd.R_types HO_372002.out BK396.out (by decide)) (fun _ hk => hk.2) (.int .i64 t394)) (fun _ hk => hk.2) (.int .i64 t395)) (fun _ hk => hk.1.2)⟩,⟨by (with_reducible repeat (first|apply Kd.S_alloc|apply Kd.S_drewN|apply Kd.S_drew));exact Kd.S_mono (Kd.S_far (p:=⟨gb396,1,none⟩) (Kd.S_far (p:=⟨gb396,0,none⟩) (Kd.S_types HO_372003.out BK396.out (by decide)) (fun _ hk => hk.2) (.int .i64 t394)) (fun _ hk => hk.2) (.int .i64 t395)) (fun _ hk => ⟨hk.1.1.1,⟨hk.1.1.2,hk.1.2⟩⟩)⟩,⟨by (with_reducible repeat (first|apply Kd.R_alloc|apply Kd.R_drewN|apply Kd.R_drew));exact Kd.R_mono (Kd.R_far (p:=⟨gb396,1,none⟩) (Kd.R_far (p:=⟨gb396,0,none⟩) (Kd.R_types HO379.out BK396.out (by decide)) (fun _ hk => hk.2) (.int .i64 t394)) (fun _ hk => hk.2) (.int .i64 t395)) (fun _ hk => hk.1.2)⟩,⟨by (with_reducible repeat (first|apply Kd.R_alloc|apply Kd.R_drewN|apply Kd.R_drew));exact Kd.R_mono (Kd.R_far (p:=⟨gb396,1,none⟩) (Kd.R_far (p:=⟨gb396,0,none⟩) (Kd.R_types HO382.out BK396.out (by decide)) (fun _ hk => hk.2) (.int .i64 t394)) (fun _ hk => hk.2) (.int .i64 t395)) (fun _ hk => hk.1.2)⟩,⟨by (with_reducible repeat (first|apply Kd.S_alloc|apply Kd.S_drewN|apply Kd.S_drew));exact Kd.S_mono (Kd.S_far (p:=⟨gb396,1,none⟩) (Kd.S_far (p:=⟨gb396,0,none⟩) (Kd.S_types HO385.out BK396.out (by decide)) (fun _ hk => hk.2) (.int .i64 t394)) (fun _ hk => hk.2) (.int .i64 t395)) (fun _ hk => ⟨hk.1.1.2,⟨hk.1.2,hk.1.1.1⟩⟩)⟩,⟨by (with_reducible repeat (first|refine bN_ ?_ _|refine bD_ ?_|refine bA_ ?_ _));refine blk_far ?_ NB356_396.out _;(with_reducible repeat (first|refine bN_ ?_ _|refine bD_ ?_|refine bA_ ?_ _));refine blk_far ?_ NB356_396.out _;(with_reducible repeat (first|refine bN_ ?_ _|refine bD_ ?_|refine bA_ ?_ _));exact BK356.out⟩,⟨by (with_reducible repeat (first|refine bN_ ?_ _|refine bD_ ?_|refine bA_ ?_ _));refine blk_far ?_ NB371_396.out _;(with_reducible repeat (first|refine bN_ ?_ _|refine bD_ ?_|refine bA_ ?_ _));refine blk_far ?_ NB371_396.out _;(with_reducible repeat (first|refine bN_ ?_ _|refine bD_ ?_|refine bA_ ?_ _));exact BK371.out⟩,⟨by (with_reducible repeat (first|refine bN_ ?_ _|refine bD_ ?_|refine bA_ ?_ _));refine blk_far ?_ NB372_396.out _;(with_reducible repeat (first|refine bN_ ?_ _|refine bD_ ?_|refine bA_ ?_ _));refine blk_far ?_ NB372_396.out _;(with_reducible repeat (first|refine bN_ ?_ _|refine bD_ ?_|refine bA_ ?_ _));exact BK372.out⟩,⟨by (with_reducible repeat (first|refine bN_ ?_ _|refine bD_ ?_|refine bA_ ?_ _));refine blk_far ?_ NB389_396.out _;(with_reducible repeat (first|refine bN_ ?_ _|refine bD_ ?_|refine bA_ ?_ _));refine blk_far ?_ NB389_396.out _;(with_reducible repeat (first|refine bN_ ?_ _|refine bD_ ?_|refine bA_ ?_ _));exact BK389.out⟩,⟨by (with_reducible repeat (first|refine bN_ ?_ _|refine bD_ ?_|refine bA_ ?_ _));refine blk_far ?_ NB390_396.out _;(with_reducible repeat (first|refine bN_ ?_ _|refine bD_ ?_|refine bA_ ?_ _));refine blk_far ?_ NB390_396.out _;(with_reducible repeat (first|refine bN_ ?_ _|refine bD_ ?_|refine bA_ ?_ _));exact BK390.out⟩,⟨by (with_reducible repeat (first|refine bN_ ?_ _|refine bD_ ?_|refine bA_ ?_ _));refine blk_put (cs:=#[.int .i64 t394,.int .i64 0]) ?_ 1 _ rfl;(with_reducible repeat (first|refine bN_ ?_ _|refine bD_ ?_|refine bA_ ?_ _));refine blk_put (cs:=#[.int .i64 0,.int .i64 0]) ?_ 0 _ rfl;(with_reducible repeat (first|refine bN_ ?_ _|refine bD_ ?_|refine bA_ ?_ _));exact BK396.out⟩,⟨by repeat (first|(with_reducible first|exact HB.out|apply eA_|apply eN_|apply eD_|refine eS_ ?_ GE356.out|refine eS_ ?_ GE371.out|refine eS_ ?_ GE372.out|refine eS_ ?_ GE389.out|refine eS_ ?_ GE390.out|refine eS_ ?_ GE396.out)|exact HB.out)⟩⟩
          case rest =>
           clear HC86
           try clear c1
           try clear c2
           try clear p2
           try clear c3
           try clear c4
           try clear p4
           try clear q4
           try clear hx4
           try clear c5
           try clear c6
           try clear p6
           try clear c7
           try clear c7b0
           try clear c8
           try clear c8b0
           try clear c9
           try clear c9b0
           try clear c10
           try clear c10b0
           try clear c10b1
           try clear c11
           try clear c12
           try clear c13
           try clear c15
           try clear c17
           try clear c18
           try clear c19
           try clear c20
           try clear c23
           try clear c32
           try clear c33
           try clear c38
           try clear c42
           try clear c42b0
           try clear c43
           try clear c44
           try clear c44b0
           try clear p45
           try clear q45
           try clear hx45
           try clear c48
           try clear c48b0
           try clear c48b1
           try clear c49
           try clear c49b0
           try clear c49b1
           try clear c50
           try clear c51
           try clear c52
           try clear c54
           try clear c57
           try clear c57b0
           try clear c57b1
           try clear c58
           try clear c59
           try clear c61
           try clear c64
           try clear p64
           try clear c65
           try clear c67
           try clear c70
           try clear c71
           try clear c73
           try clear c76
           try clear c77
           try clear c79
           try clear c82
           try clear c84
           try clear c84b0
           try clear c84b1
           try clear c84b2
           try clear c87
           try clear c88
           try clear c93
           try clear c94
           try clear c95
           try clear c96
           try clear c101
           try clear c102
           try clear c103
           try clear c108
           try clear c109
           try clear c110
           try clear c111
           try clear c112
           try clear c114
           try clear c114b0
           try clear c115
           try clear c116
           try clear c117
           try clear c118
           try clear c119
           try clear c121
           try clear c122
           try clear c123
           try clear c124
           try clear c125
           try clear hcz104_0
           try clear hcz104_1
           try clear hcz105_0
           try clear hcz105_1
           try clear hcz113_0
           try clear hcz113_1
           try clear hcz120_0
           try clear hcz120_1
           try clear hcz126_0
           try clear hcz126_1
           try clear hcz13_0
           try clear hcz13_1
           try clear hcz19_0
           try clear hcz19_1
           try clear hcz19_2
           try clear hcz19_3
           try clear hcz19_4
           try clear hcz24_0
           try clear hcz24_1
           try clear hcz28_0
           try clear hcz28_1
           try clear hcz34_0
           try clear hcz34_1
           try clear hcz34_2
           try clear hcz34_3
           try clear hcz34_4
           try clear hcz39_0
           try clear hcz39_1
           try clear hcz40_0
           try clear hcz40_1
           try clear hcz53_0
           try clear hcz53_1
           try clear hcz53_2
           try clear hcz53_3
           try clear hcz53_4
           try clear hcz55_0
           try clear hcz55_1
           try clear hcz60_0
           try clear hcz60_1
           try clear hcz60_2
           try clear hcz60_3
           try clear hcz60_4
           try clear hcz62_0
           try clear hcz62_1
           try clear hcz66_0
           try clear hcz66_1
           try clear hcz66_2
           try clear hcz66_3
           try clear hcz66_4
           try clear hcz68_0
           try clear hcz68_1
           try clear hcz72_0
           try clear hcz72_1
           try clear hcz72_2
           try clear hcz72_3
           try clear hcz72_4
           try clear hcz74_0
           try clear hcz74_1
           try clear hcz78_0
           try clear hcz78_1
           try clear hcz78_2
           try clear hcz78_3
           try clear hcz78_4
           try clear hcz80_0
           try clear hcz80_1
           try clear hcz89_0
           try clear hcz89_1
           try clear hcz97_0
           try clear hcz97_1
           try clear hcz97_2
           try clear hcz97_3
           try clear hcz97_4
           try clear hfz104_0
           try clear hfz104_1
           try clear hfz105_0
           try clear hfz105_1
           try clear hfz113_0
           try clear hfz113_1
           try clear hfz120_0
           try clear hfz120_1
           try clear hfz126_0
           try clear hfz126_1
           try clear hfz13_0
           try clear hfz13_1
           try clear hfz19_0
           try clear hfz19_1
           try clear hfz19_2
           try clear hfz19_3
           try clear hfz19_4
           try clear hfz24_0
           try clear hfz24_1
           try clear hfz28_0
           try clear hfz28_1
           try clear hfz34_0
           try clear hfz34_1
           try clear hfz34_2
           try clear hfz34_3
           try clear hfz34_4
           try clear hfz39_0
           try clear hfz39_1
           try clear hfz40_0
           try clear hfz40_1
           try clear hfz53_0
           try clear hfz53_1
           try clear hfz53_2
           try clear hfz53_3
           try clear hfz53_4
           try clear hfz55_0
           try clear hfz55_1
           try clear hfz60_0
           try clear hfz60_1
           try clear hfz60_2
           try clear hfz60_3
           try clear hfz60_4
           try clear hfz62_0
           try clear hfz62_1
           try clear hfz66_0
           try clear hfz66_1
           try clear hfz66_2
           try clear hfz66_3
           try clear hfz66_4
           try clear hfz68_0
           try clear hfz68_1
           try clear hfz72_0
           try clear hfz72_1
           try clear hfz72_2
           try clear hfz72_3
           try clear hfz72_4
           try clear hfz74_0
           try clear hfz74_1
           try clear hfz78_0
           try clear hfz78_1
           try clear hfz78_2
           try clear hfz78_3
           try clear hfz78_4
           try clear hfz80_0
           try clear hfz80_1
           try clear hfz89_0
           try clear hfz89_1
           try clear hfz97_0
           try clear hfz97_1
           try clear hfz97_2
           try clear hfz97_3
           try clear hfz97_4
           try clear p2
           try clear p4
           try clear p45
           try clear p6
           try clear p64
           try clear q4
           try clear q45
           obtain ⟨kq,x131_85,rfl,HA,HJ85,HO_15,HO_372001,HO_372002,HO_372003,HO_390001,HO_390002,HO_390003,BK356,BK371,BK372,BK389,BK390,BK396,HB⟩:=hcut
           cases kq with
           |zero => exact absurd HA.out (by simp [trestlelaw12_StimForth.j2])
           |succ kj85 =>
            have H:=HA.out
            clear HA
            simp only [trestlelaw12_StimForth.j2] at H
            by_cases c127 : x131_85 = true
            ·subst c127
             have H1 : (some true) = some r:=by rw [if_pos rfl] at H;exact H
             clear H
             have H:=H1
             clear H1
             obtain rfl:=Option.some.inj H
             go_wp2
             go_ret
             exact ⟨by first|rfl|(simp [errW_none,errW_some] <;> rfl)|(simp [*,errW_none,errW_some] <;> rfl),by repeat (first|(with_reducible first|exact HB.out|apply eA_|apply eN_|apply eD_|refine eS_ ?_ GE356.out|refine eS_ ?_ GE371.out|refine eS_ ?_ GE372.out|refine eS_ ?_ GE389.out|refine eS_ ?_ GE390.out|refine eS_ ?_ GE396.out)|exact HB.out)⟩
            ·replace c127:=Bool.eq_false_iff.mpr c127
             subst c127
             have H1 : (if (t394 == 0 && (t395 == 0)) = true then (if (t391.length : Int) = 2 then (if 0 < (t391.length : Int) then ((trestlelaw12_same.f kj85 ((rd_T28 t391 0).f0) ((rd_T28 t391 0).f1) ((rd_T28 t391 0).f2.f0) ((rd_T28 t391 0).f2.f1) ((rd_T28 t391 0).f2.f2) t358 t359 t362 t365 t368).bind fun t398 => (if t398 = true then (if 1 < (t391.length : Int) then ((trestlelaw12_same.f kj85 ((rd_T28 t391 1).f0) ((rd_T28 t391 1).f1) ((rd_T28 t391 1).f2.f0) ((rd_T28 t391 1).f2.f1) ((rd_T28 t391 1).f2.f2) t376 t377 t380 t383 t386).bind fun t400 => (some t400)) else (none)) else (none))) else (none)) else (none)) else (none)) = some r:=by rw [if_neg (show ¬ (false = true) by decide)] at H;exact H
             clear H
             have H:=H1
             clear H1
             by_cases c128 : (t394 == 0 && (t395 == 0)) = true
             ·rw [if_pos c128] at H
              have c128b0 : (t394 == 0 && (t395 == 0)) = true:=c128
              (try (have c128b1 : decide (t394 = 0 && (t395 == 0)) = true:=by simpa using c128))
              (try (have c128b2 : (t394 == 0 && (t395 == 0)) = true:=by simpa using c128))
              clear c128
              by_cases c129 : (t391.length : Int) = 2
              ·rw [if_pos c129] at H
               have c129b0 : ((t391.length : Int) == 2) = true:=beq_iff_eq.mpr c129
               have c129b1 : ((t391.length : Int) != 2) = false:=bne_eq_false_iff_eq.mpr c129
               clear c129
               by_cases c130 : 0 < (t391.length : Int)
               ·rw [if_pos c130] at H
                have c130b0 : decide (0 < (t391.length : Int)) = true:=decide_eq_true c130
                have c130b1 : decide (0 < t391.length) = true:=decide_eq_true (by omega)
                have c130b2 : 0 < t391.length:=by omega
                clear c130
                replace H:=Option.bind_eq_some_iff.mp H
                obtain ⟨t398,A1310,H⟩:=H
                replace H : (if t398 = true then (if 1 < (t391.length : Int) then ((trestlelaw12_same.f kj85 ((rd_T28 t391 1).f0) ((rd_T28 t391 1).f1) ((rd_T28 t391 1).f2.f0) ((rd_T28 t391 1).f2.f1) ((rd_T28 t391 1).f2.f2) t376 t377 t380 t383 t386).bind fun t400 => (some t400)) else (none)) else (none)) = some r:=H
                have A131:=A0_.mk A1310
                clear A1310
                by_cases c132 : t398 = true
                ·subst c132
                 have H1 : (if 1 < (t391.length : Int) then ((trestlelaw12_same.f kj85 ((rd_T28 t391 1).f0) ((rd_T28 t391 1).f1) ((rd_T28 t391 1).f2.f0) ((rd_T28 t391 1).f2.f1) ((rd_T28 t391 1).f2.f2) t376 t377 t380 t383 t386).bind fun t400 => (some t400)) else (none)) = some r:=by rw [if_pos rfl] at H;exact H
                 clear H
                 have H:=H1
                 clear H1
                 by_cases c133 : 1 < (t391.length : Int)
                 ·rw [if_pos c133] at H
                  have c133b0 : decide (1 < (t391.length : Int)) = true:=decide_eq_true c133
                  have c133b1 : decide (1 < t391.length) = true:=decide_eq_true (by omega)
                  have c133b2 : 1 < t391.length:=by omega
                  clear c133
                  replace H:=Option.bind_eq_some_iff.mp H
                  obtain ⟨t400,A1340,H⟩:=H
                  replace H : (some t400) = some r:=H
                  have A134:=A0_.mk A1340
                  clear A1340
                  obtain rfl:=Option.some.inj H
                  try go_wp2
                  have n0_:=A0_.mk (Kd.R_drew HO_15.out)
                  have n1_:=A0_.mk (Kd.R_drew HO_372001.out)
                  have n2_:=A0_.mk (Kd.R_drew HO_372002.out)
                  have n3_:=A0_.mk (Kd.S_drew HO_372003.out)
                  have n4_:=A0_.mk (Kd.R_drew HO_390001.out)
                  have n5_:=A0_.mk (Kd.R_drew HO_390002.out)
                  have n6_:=A0_.mk (Kd.S_drew HO_390003.out)
                  have n7_:=A0_.mk (bD_ BK356.out)
                  have n8_:=A0_.mk (bD_ BK371.out)
                  have n9_:=A0_.mk (bD_ BK372.out)
                  have n10_:=A0_.mk (bD_ BK389.out)
                  have n11_:=A0_.mk (bD_ BK390.out)
                  have n12_:=A0_.mk (bD_ BK396.out)
                  have n13_:=A0_.mk (eD_ HB.out)
                  clear HO_15
                  clear HO_372001
                  clear HO_372002
                  clear HO_372003
                  clear HO_390001
                  clear HO_390002
                  clear HO_390003
                  clear BK356
                  clear BK371
                  clear BK372
                  clear BK389
                  clear BK390
                  clear BK396
                  clear HB
                  have HO_15:=n0_
                  have HO_372001:=n1_
                  have HO_372002:=n2_
                  have HO_372003:=n3_
                  have HO_390001:=n4_
                  have HO_390002:=n5_
                  have HO_390003:=n6_
                  have BK356:=n7_
                  have BK371:=n8_
                  have BK372:=n9_
                  have BK389:=n10_
                  have BK390:=n11_
                  have BK396:=n12_
                  have HB:=n13_
                  clear n0_ n1_ n2_ n3_ n4_ n5_ n6_ n7_ n8_ n9_ n10_ n11_ n12_ n13_
                  obtain ⟨Ao136,co136,eo136⟩:=Kd.R_slice HO_15.out
                  (first|subst eo136|(injection eo136 with f1_ f2_ f3_;have f4_:=f1_.symm;have f5_:=f3_.symm;clear f1_ f2_ f3_;subst f4_;subst f5_))
                  have p397 : 0 ≤ (0 : Int):=(by omega)
                  have q397 : 0 < (t391.length : Int):=of_decide_eq_true (by first|(with_reducible assumption)|assumption)
                  obtain ⟨ad397,A397_1,c397_1,A397_2,c397_2,A397_3,c397_3,e397,hx397_0,hx397_1,hx397_2,hx397_3,hx397_4,hl397_1,hi397_1,hl397_2,hi397_2,hl397_3,hi397_3⟩:=at_T28 (Kd.R_reads' HO_15.out).2.2 0 p397 q397
                  cases e397
                  obtain ⟨ce397,hce397,hMe397,hcc397⟩:=Kd.R_get HO_15.out z28 0 p397 (by first|exact q397|exact of_decide_eq_true (by first|(with_reducible assumption)|assumption)|(have e_:=(Kd.R_reads' HO_15.out).1;omega))
                  obtain ⟨ve397_1,ve397_2,ve397_3,rfl,ge397_1,ge397_2,ge397_3⟩:=k28_openM hMe397
                  have hv397_1:=hcc397 1 _ rfl
                  rw [add_field _ _ 1 (by omega)] at hv397_1
                  replace hv397_1:=Option.some.inj (hv397_1.symm.trans hx397_1)
                  rw [hv397_1] at ge397_1
                  have HL397_1:=A0_.mk (show Kd.R k83 83 _ _ _ _ ((rd_T28 t391 0).f1) from ge397_1)
                  clear hv397_1 ge397_1
                  have hv397_2:=hcc397 2 _ rfl
                  rw [add_field _ _ 2 (by omega)] at hv397_2
                  replace hv397_2:=Option.some.inj (hv397_2.symm.trans hx397_2)
                  rw [hv397_2] at ge397_2
                  have HL397_2:=A0_.mk (show Kd.R Kd.bool 4 _ _ _ _ ((rd_T28 t391 0).f2.f0) from ge397_2)
                  clear hv397_2 ge397_2
                  have hv397_3:=hcc397 3 _ rfl
                  rw [add_field _ _ 3 (by omega)] at hv397_3
                  replace hv397_3:=Option.some.inj (hv397_3.symm.trans hx397_3)
                  rw [hv397_3] at ge397_3
                  have HL397_3:=A0_.mk (show Kd.R (Kd.slice 4 Kd.bool) 23 _ _ _ _ ((rd_T28 t391 0).f2.f1) from ge397_3)
                  clear hv397_3 ge397_3
                  clear hcc397 hce397
                  have qi397 : (0 < t391.length) = True:=eq_true (by omega)
                  (try rw [show ((0 : Int)).toNat = 0 from rfl] at hx397_0)
                  (try rw [show 0 * 5 = 0 from rfl] at hx397_0)
                  (try rw [Addr.add_zero'] at hx397_0)
                  (try rw [show ((0 : Int)).toNat = 0 from rfl] at hx397_1)
                  (try rw [show 0 * 5 = 0 from rfl] at hx397_1)
                  (try rw [Addr.add_zero'] at hx397_1)
                  (try rw [show ((0 : Int)).toNat = 0 from rfl] at hx397_2)
                  (try rw [show 0 * 5 = 0 from rfl] at hx397_2)
                  (try rw [Addr.add_zero'] at hx397_2)
                  (try rw [show ((0 : Int)).toNat = 0 from rfl] at hx397_3)
                  (try rw [show 0 * 5 = 0 from rfl] at hx397_3)
                  (try rw [Addr.add_zero'] at hx397_3)
                  (try rw [show ((0 : Int)).toNat = 0 from rfl] at hx397_4)
                  (try rw [show 0 * 5 = 0 from rfl] at hx397_4)
                  (try rw [Addr.add_zero'] at hx397_4)
                  have HR397_1:=A0_.mk hi397_1
                  have HC397_1:=A0_.mk hl397_1
                  clear hi397_1 hl397_1
                  have HR397_2:=A0_.mk hi397_2
                  have HC397_2:=A0_.mk hl397_2
                  clear hi397_2 hl397_2
                  have HR397_3:=A0_.mk hi397_3
                  have HC397_3:=A0_.mk hl397_3
                  clear hi397_3 hl397_3
                  replace p397:=eq_true p397
                  replace q397:=eq_true q397
                  have p399 : 0 ≤ (1 : Int):=(by omega)
                  have q399 : 1 < (t391.length : Int):=of_decide_eq_true (by first|(with_reducible assumption)|assumption)
                  obtain ⟨ad399,A399_1,c399_1,A399_2,c399_2,A399_3,c399_3,e399,hx399_0,hx399_1,hx399_2,hx399_3,hx399_4,hl399_1,hi399_1,hl399_2,hi399_2,hl399_3,hi399_3⟩:=at_T28 (Kd.R_reads' HO_15.out).2.2 1 p399 q399
                  obtain rfl : ad397 = ad399:=(by injection e399)
                  obtain ⟨ce399,hce399,hMe399,hcc399⟩:=Kd.R_get HO_15.out z28 1 p399 (by first|exact q399|exact of_decide_eq_true (by first|(with_reducible assumption)|assumption)|(have e_:=(Kd.R_reads' HO_15.out).1;omega))
                  obtain ⟨ve399_1,ve399_2,ve399_3,rfl,ge399_1,ge399_2,ge399_3⟩:=k28_openM hMe399
                  have hv399_1:=hcc399 1 _ rfl
                  rw [add_field _ _ 1 (by omega)] at hv399_1
                  replace hv399_1:=Option.some.inj (hv399_1.symm.trans hx399_1)
                  rw [hv399_1] at ge399_1
                  have HL399_1:=A0_.mk (show Kd.R k83 83 _ _ _ _ ((rd_T28 t391 1).f1) from ge399_1)
                  clear hv399_1 ge399_1
                  have hv399_2:=hcc399 2 _ rfl
                  rw [add_field _ _ 2 (by omega)] at hv399_2
                  replace hv399_2:=Option.some.inj (hv399_2.symm.trans hx399_2)
                  rw [hv399_2] at ge399_2
                  have HL399_2:=A0_.mk (show Kd.R Kd.bool 4 _ _ _ _ ((rd_T28 t391 1).f2.f0) from ge399_2)
                  clear hv399_2 ge399_2
                  have hv399_3:=hcc399 3 _ rfl
                  rw [add_field _ _ 3 (by omega)] at hv399_3
                  replace hv399_3:=Option.some.inj (hv399_3.symm.trans hx399_3)
                  rw [hv399_3] at ge399_3
                  have HL399_3:=A0_.mk (show Kd.R (Kd.slice 4 Kd.bool) 23 _ _ _ _ ((rd_T28 t391 1).f2.f1) from ge399_3)
                  clear hv399_3 ge399_3
                  clear hcc399 hce399
                  (try simp only [show (1 : Int).toNat = 1 from rfl,Nat.reduceMul,Nat.reduceEqDiff,Go.Addr.add,↓reduceIte] at hx399_0)
                  (try simp only [show (1 : Int).toNat = 1 from rfl,Nat.reduceMul,Nat.reduceEqDiff,Go.Addr.add,↓reduceIte] at hx399_1)
                  (try simp only [show (1 : Int).toNat = 1 from rfl,Nat.reduceMul,Nat.reduceEqDiff,Go.Addr.add,↓reduceIte] at hx399_2)
                  (try simp only [show (1 : Int).toNat = 1 from rfl,Nat.reduceMul,Nat.reduceEqDiff,Go.Addr.add,↓reduceIte] at hx399_3)
                  (try simp only [show (1 : Int).toNat = 1 from rfl,Nat.reduceMul,Nat.reduceEqDiff,Go.Addr.add,↓reduceIte] at hx399_4)
                  have qi399 : (1 < t391.length) = True:=eq_true (by omega)
                  (try rw [show ((1 : Int)).toNat = 1 from rfl] at hx399_0)
                  (try rw [show 1 * 5 = 5 from rfl] at hx399_0)
                  (try rw [show ((1 : Int)).toNat = 1 from rfl] at hx399_1)
                  (try rw [show 1 * 5 = 5 from rfl] at hx399_1)
                  (try rw [show ((1 : Int)).toNat = 1 from rfl] at hx399_2)
                  (try rw [show 1 * 5 = 5 from rfl] at hx399_2)
                  (try rw [show ((1 : Int)).toNat = 1 from rfl] at hx399_3)
                  (try rw [show 1 * 5 = 5 from rfl] at hx399_3)
                  (try rw [show ((1 : Int)).toNat = 1 from rfl] at hx399_4)
                  (try rw [show 1 * 5 = 5 from rfl] at hx399_4)
                  have HR399_1:=A0_.mk hi399_1
                  have HC399_1:=A0_.mk hl399_1
                  clear hi399_1 hl399_1
                  have HR399_2:=A0_.mk hi399_2
                  have HC399_2:=A0_.mk hl399_2
                  clear hi399_2 hl399_2
                  have HR399_3:=A0_.mk hi399_3
                  have HC399_3:=A0_.mk hl399_3
                  clear hi399_3 hl399_3
                  replace p399:=eq_true p399
                  replace q399:=eq_true q399
                  refine start_ (n:=23) (S:=fun w' => w'.cell? ⟨gb396,0,none⟩ = some (.int .i64 t394) ∧ w'.cell? ⟨gb396,1,none⟩ = some (.int .i64 t395) ∧ w'.cell? ⟨gb371,0,none⟩ = some (.int .i64 t358) ∧ w'.cell? ⟨gb371,1,none⟩ = some (.slice Ao35 t359.length co35) ∧ w'.cell? ⟨gb371,2,none⟩ = some (.slice Ao36 t362.length co36) ∧ w'.cell? ⟨gb371,3,none⟩ = some (.slice Ao37 t365.length co37) ∧ w'.cell? ⟨gb371,4,none⟩ = some (.int .i64 t368) ∧ w'.cell? ⟨gb389,0,none⟩ = some (.int .i64 t376) ∧ w'.cell? ⟨gb389,1,none⟩ = some (.slice Ao98 t377.length co98) ∧ w'.cell? ⟨gb389,2,none⟩ = some (.slice Ao99 t380.length co99) ∧ w'.cell? ⟨gb389,3,none⟩ = some (.slice Ao100 t383.length co100) ∧ w'.cell? ⟨gb389,4,none⟩ = some (.int .i64 t386) ∧ w'.cell? ad397 = some (.int .i64 ((rd_T28 t391 0).f0)) ∧ w'.cell? ⟨ad397.block,ad397.off + 1,none⟩ = some (.slice A397_1 ((rd_T28 t391 0).f1).length c397_1) ∧ w'.cell? ⟨ad397.block,ad397.off + 2,none⟩ = some (.slice A397_2 ((rd_T28 t391 0).f2.f0).length c397_2) ∧ w'.cell? ⟨ad397.block,ad397.off + 3,none⟩ = some (.slice A397_3 ((rd_T28 t391 0).f2.f1).length c397_3) ∧ w'.cell? ⟨ad397.block,ad397.off + 4,none⟩ = some (.int .i64 ((rd_T28 t391 0).f2.f2)) ∧ w'.cell? ⟨ad397.block,ad397.off + 5,none⟩ = some (.int .i64 ((rd_T28 t391 1).f0)) ∧ w'.cell? ⟨ad397.block,ad397.off + 5 + 1,none⟩ = some (.slice A399_1 ((rd_T28 t391 1).f1).length c399_1) ∧ w'.cell? ⟨ad397.block,ad397.off + 5 + 2,none⟩ = some (.slice A399_2 ((rd_T28 t391 1).f2.f0).length c399_2) ∧ w'.cell? ⟨ad397.block,ad397.off + 5 + 3,none⟩ = some (.slice A399_3 ((rd_T28 t391 1).f2.f1).length c399_3) ∧ w'.cell? ⟨ad397.block,ad397.off + 5 + 4,none⟩ = some (.int .i64 ((rd_T28 t391 1).f2.f2))) (ds:=[]) #[false,false,false,false,false,false,false,false,false,false,false,false,false,false,false,false,false,false,false,false,false,false,false] (by kernel_rfl) rfl rfl ⟨(bC_ BK396.out 0).trans rfl,(bC_ BK396.out 1).trans rfl,(bC_ BK371.out 0).trans rfl,(bC_ BK371.out 1).trans rfl,(bC_ BK371.out 2).trans rfl,(bC_ BK371.out 3).trans rfl,(bC_ BK371.out 4).trans rfl,(bC_ BK389.out 0).trans rfl,(bC_ BK389.out 1).trans rfl,(bC_ BK389.out 2).trans rfl,(bC_ BK389.out 3).trans rfl,(bC_ BK389.out 4).trans rfl,hx397_0,hx397_1,hx397_2,hx397_3,hx397_4,hx399_0,hx399_1,hx399_2,hx399_3,hx399_4⟩ (fun hHeld => ?_);refine with_tabW trestlelaw12_StimForth.tab18 trestlelaw12_StimForth.bits18 (fun HT_ HW_ => ?_)
                  generalize wc.drew = w135 at HO_15 HO_372001 HO_372002 HO_372003 HO_390001 HO_390002 HO_390003 BK356 BK371 BK372 BK389 BK390 BK396 HB HL397_1 HL397_2 HL397_3 HL399_1 HL399_2 HL399_3 HR397_1 HR397_2 HR397_3 HR399_1 HR399_2 HR399_3 hx397_0 hx397_1 hx397_2 hx397_3 hx397_4 hx399_0 hx399_1 hx399_2 hx399_3 hx399_4 hHeld ⊢
                  refine pure_ (i:=1) (N:=some 133) (v:=?_) (a':=?_) #[false,true,false,false,false,false,false,false,false,false,false,false,false,false,false,false,false,false,false,false,false,false,false] rfl rfl (any_of HT_.out (by kernel_rfl)) (fun _ _ _ h => h) (Or.inl ⟨by rfl,?_⟩) ?_ ?_
                  rotate_left
                  ·intro w'
                   go_simp
                   with_reducible rfl
                  rotate_left
                  ·simp only [Act.put,List.setIfInBounds_toArray,List.set_cons_zero,List.set_cons_succ,i64_w,i32_w]
                   rfl
                  refine take_ (i:=0) (N:=some 132) (v:=?_) (a':=?_) #[true,true,false,false,false,false,false,false,false,false,false,false,false,false,false,false,false,false,false,false,false,false,false] rfl rfl (take_ofW HT_.out HW_.out (by kernel_rfl)) (fun _ _ _ h => h) (Or.inl ⟨by rfl,?_⟩) hHeld ?_ ?_
                  rotate_left
                  ·rintro w' ⟨s0,s1,s2,s3,s4,s5,s6,s7,s8,s9,s10,s11,s12,s13,s14,s15,s16,s17,s18,s19,s20,s21⟩
                   go_simp
                   with_reducible rfl
                  rotate_left
                  ·simp only [Act.put,List.setIfInBounds_toArray,List.set_cons_zero,List.set_cons_succ,i64_w,i32_w]
                   rfl
                  refine pure_ (i:=2) (N:=some 134) (v:=?_) (a':=?_) #[true,true,true,false,false,false,false,false,false,false,false,false,false,false,false,false,false,false,false,false,false,false,false] rfl rfl (any_of HT_.out (by kernel_rfl)) (fun _ _ _ h => h) (Or.inl ⟨by rfl,?_⟩) ?_ ?_
                  rotate_left
                  ·intro w'
                   go_simp
                   with_reducible rfl
                  rotate_left
                  ·simp only [Act.put,List.setIfInBounds_toArray,List.set_cons_zero,List.set_cons_succ,i64_w,i32_w]
                   rfl
                  refine pure_ (i:=3) (N:=some 135) (v:=?_) (a':=?_) #[true,true,true,true,false,false,false,false,false,false,false,false,false,false,false,false,false,false,false,false,false,false,false] rfl rfl (any_of HT_.out (by kernel_rfl)) (fun _ _ _ h => h) (Or.inl ⟨by rfl,?_⟩) ?_ ?_
                  rotate_left
                  ·intro w'
                   go_simp
                   with_reducible rfl
                  rotate_left
                  ·simp only [Act.put,List.setIfInBounds_toArray,List.set_cons_zero,List.set_cons_succ,i64_w,i32_w]
                   rfl
                  refine pure_ (i:=4) (N:=some 136) (v:=?_) (a':=?_) #[true,true,true,true,true,false,false,false,false,false,false,false,false,false,false,false,false,false,false,false,false,false,false] rfl rfl (any_of HT_.out (by kernel_rfl)) (fun _ _ _ h => h) (Or.inl ⟨by rfl,?_⟩) ?_ ?_
                  rotate_left
                  ·intro w'
                   go_simp
                   with_reducible rfl
                  rotate_left
                  ·simp only [Act.put,List.setIfInBounds_toArray,List.set_cons_zero,List.set_cons_succ,i64_w,i32_w]
                   rfl
                  refine pure_ (i:=5) (N:=some 137) (v:=?_) (a':=?_) #[true,true,true,true,true,true,false,false,false,false,false,false,false,false,false,false,false,false,false,false,false,false,false] rfl rfl (any_of HT_.out (by kernel_rfl)) (fun _ _ _ h => h) (Or.inl ⟨by rfl,?_⟩) ?_ ?_
                  rotate_left
                  ·intro w'
                   go_simp
                   with_reducible rfl
                  rotate_left
                  ·simp only [Act.put,List.setIfInBounds_toArray,List.set_cons_zero,List.set_cons_succ,i64_w,i32_w]
                   rfl
                  refine pure_ (i:=6) (N:=some 138) (v:=?_) (a':=?_) #[true,true,true,true,true,true,true,false,false,false,false,false,false,false,false,false,false,false,false,false,false,false,false] rfl rfl (any_of HT_.out (by kernel_rfl)) (fun _ _ _ h => h) (Or.inl ⟨by rfl,?_⟩) ?_ ?_
                  rotate_left
                  ·intro w'
                   go_simp
                   with_reducible rfl
                  rotate_left
                  ·simp only [Act.put,List.setIfInBounds_toArray,List.set_cons_zero,List.set_cons_succ,i64_w,i32_w]
                   rfl
                  refine pure_ (i:=7) (N:=some 139) (v:=?_) (a':=?_) #[true,true,true,true,true,true,true,true,false,false,false,false,false,false,false,false,false,false,false,false,false,false,false] rfl rfl (any_of HT_.out (by kernel_rfl)) (fun _ _ _ h => h) (Or.inl ⟨by rfl,?_⟩) ?_ ?_
                  rotate_left
                  ·intro w'
                   go_simp
                   with_reducible rfl
                  rotate_left
                  ·simp only [Act.put,List.setIfInBounds_toArray,List.set_cons_zero,List.set_cons_succ,i64_w,i32_w]
                   rfl
                  refine pure_ (i:=8) (N:=some 140) (v:=?_) (a':=?_) #[true,true,true,true,true,true,true,true,true,false,false,false,false,false,false,false,false,false,false,false,false,false,false] rfl rfl (any_of HT_.out (by kernel_rfl)) (fun _ _ _ h => h) (Or.inl ⟨by rfl,?_⟩) ?_ ?_
                  rotate_left
                  ·intro w'
                   go_simp
                   with_reducible rfl
                  rotate_left
                  ·simp only [Act.put,List.setIfInBounds_toArray,List.set_cons_zero,List.set_cons_succ,i64_w,i32_w]
                   rfl
                  refine pure_ (i:=9) (N:=some 141) (v:=?_) (a':=?_) #[true,true,true,true,true,true,true,true,true,true,false,false,false,false,false,false,false,false,false,false,false,false,false] rfl rfl (any_of HT_.out (by kernel_rfl)) (fun _ _ _ h => h) (Or.inl ⟨by rfl,?_⟩) ?_ ?_
                  rotate_left
                  ·intro w'
                   go_simp
                   with_reducible rfl
                  rotate_left
                  ·simp only [Act.put,List.setIfInBounds_toArray,List.set_cons_zero,List.set_cons_succ,i64_w,i32_w]
                   rfl
                  refine pure_ (i:=10) (N:=some 142) (v:=?_) (a':=?_) #[true,true,true,true,true,true,true,true,true,true,true,false,false,false,false,false,false,false,false,false,false,false,false] rfl rfl (any_of HT_.out (by kernel_rfl)) (fun _ _ _ h => h) (Or.inl ⟨by rfl,?_⟩) ?_ ?_
                  rotate_left
                  ·intro w'
                   go_simp
                   with_reducible rfl
                  rotate_left
                  ·simp only [Act.put,List.setIfInBounds_toArray,List.set_cons_zero,List.set_cons_succ,i64_w,i32_w]
                   rfl
                  refine take_ (i:=11) (N:=some 143) (v:=?_) (a':=?_) #[true,true,true,true,true,true,true,true,true,true,true,true,false,false,false,false,false,false,false,false,false,false,false] rfl rfl (take_ofW HT_.out HW_.out (by kernel_rfl)) (fun _ _ _ h => h) (Or.inl ⟨by rfl,?_⟩) hHeld ?_ ?_
                  rotate_left
                  ·rintro w' ⟨s0,s1,s2,s3,s4,s5,s6,s7,s8,s9,s10,s11,s12,s13,s14,s15,s16,s17,s18,s19,s20,s21⟩
                   go_simp
                   with_reducible rfl
                  rotate_left
                  ·simp only [Act.put,List.setIfInBounds_toArray,List.set_cons_zero,List.set_cons_succ,i64_w,i32_w]
                   rfl
                  refine take_ (i:=12) (N:=some 144) (v:=?_) (a':=?_) #[true,true,true,true,true,true,true,true,true,true,true,true,true,false,false,false,false,false,false,false,false,false,false] rfl rfl (take_ofW HT_.out HW_.out (by kernel_rfl)) (fun _ _ _ h => h) (Or.inl ⟨by rfl,?_⟩) hHeld ?_ ?_
                  rotate_left
                  ·rintro w' ⟨s0,s1,s2,s3,s4,s5,s6,s7,s8,s9,s10,s11,s12,s13,s14,s15,s16,s17,s18,s19,s20,s21⟩
                   go_simp
                   with_reducible rfl
                  rotate_left
                  ·simp only [Act.put,List.setIfInBounds_toArray,List.set_cons_zero,List.set_cons_succ,i64_w,i32_w]
                   rfl
                  refine one_ (i:=13) (N:=some 145) #[true,true,true,true,true,true,true,true,true,true,true,true,true,true,false,false,false,false,false,false,false,false,false] rfl rfl (one_of HT_.out (by kernel_rfl)) (by decide) (fun K hK => ?_)
                  refine goes_ Tryd.func17 (by kernel_rfl) rfl #[.agg #[.int .i64 ((rd_T28 t391 0).f0),.slice A397_1 ((rd_T28 t391 0).f1).length c397_1,.slice A397_2 ((rd_T28 t391 0).f2.f0).length c397_2,.slice A397_3 ((rd_T28 t391 0).f2.f1).length c397_3,.int .i64 ((rd_T28 t391 0).f2.f2)],.agg #[.int .i64 t358,.slice Ao35 t359.length co35,.slice Ao36 t362.length co36,.slice Ao37 t365.length co37,.int .i64 t368]] (by rfl) rfl rfl (by (try simp only [List.map_toArray,List.map_cons,List.map_nil]);first|done|rfl|(simp only [List.length_drop,List.length_take];rfl)) ?_
                  with_reducible refine (trestlelaw12_same.calls kj85 ((rd_T28 t391 0).f0) _ _ ((rd_T28 t391 0).f1) _ _ ((rd_T28 t391 0).f2.f0) _ _ ((rd_T28 t391 0).f2.f1) ((rd_T28 t391 0).f2.f2) t358 _ _ t359 _ _ t362 _ _ t365 t368 true _ ?side1 ?side2 ?side3 ?side4 ?side5 ?side6 ?side7 ?side8 ?side9 ?side10 ?side11 ?side12 A131.out).mono ?_
                  (case side1 => repeat (first|exact (by repeat (first|(with_reducible exact HR397_1.out)|(with_reducible refine Kd.C_alloc ?_ _)|(with_reducible refine Kd.C_drewN ?_ _)|(with_reducible refine Kd.C_drew ?_)|exact HR397_1.out))|(with_reducible refine Kd.C_alloc ?_ _)|(with_reducible refine Kd.C_drewN ?_ _)|(with_reducible refine Kd.C_drew ?_)))
                  (case side2 => exact HC397_1.out)
                  (case side3 => repeat (first|exact (by repeat (first|(with_reducible exact HR397_2.out)|(with_reducible refine Kd.C_alloc ?_ _)|(with_reducible refine Kd.C_drewN ?_ _)|(with_reducible refine Kd.C_drew ?_)|exact HR397_2.out))|(with_reducible refine Kd.C_alloc ?_ _)|(with_reducible refine Kd.C_drewN ?_ _)|(with_reducible refine Kd.C_drew ?_)))
                  (case side4 => exact HC397_2.out)
                  (case side5 => repeat (first|exact (by repeat (first|(with_reducible exact HR397_3.out)|(with_reducible refine Kd.C_alloc ?_ _)|(with_reducible refine Kd.C_drewN ?_ _)|(with_reducible refine Kd.C_drew ?_)|exact HR397_3.out))|(with_reducible refine Kd.C_alloc ?_ _)|(with_reducible refine Kd.C_drewN ?_ _)|(with_reducible refine Kd.C_drew ?_)))
                  (case side6 => exact HC397_3.out)
                  (case side7 => repeat (first|exact (Kd.R_reads' HO_372001.out).2.2|(with_reducible refine Kd.C_alloc ?_ _)|(with_reducible refine Kd.C_drewN ?_ _)|(with_reducible refine Kd.C_drew ?_)))
                  (case side8 => exact (Kd.R_reads' HO_372001.out).2.1)
                  (case side9 => repeat (first|exact (Kd.R_reads' HO_372002.out).2.2|(with_reducible refine Kd.C_alloc ?_ _)|(with_reducible refine Kd.C_drewN ?_ _)|(with_reducible refine Kd.C_drew ?_)))
                  (case side10 => exact (Kd.R_reads' HO_372002.out).2.1)
                  (case side11 => repeat (first|exact (Kd.S_reads' HO_372003.out).2.2|(with_reducible refine Kd.C_alloc ?_ _)|(with_reducible refine Kd.C_drewN ?_ _)|(with_reducible refine Kd.C_drew ?_)))
                  (case side12 => exact (Kd.S_reads' HO_372003.out).2.1)
                  rintro e w137 ⟨rfl,hb⟩
                  replace HR399_1:=A0_.mk (Kd.C_below HR399_1.out hb)
                  replace HR399_2:=A0_.mk (Kd.C_below HR399_2.out hb)
                  replace HR399_3:=A0_.mk (Kd.C_below HR399_3.out hb)
                  replace HL399_1:=A0_.mk (Kd.R_below HL399_1.out hb)
                  replace HL399_2:=A0_.mk (Kd.R_below HL399_2.out hb)
                  replace HL399_3:=A0_.mk (Kd.R_below HL399_3.out hb)
                  have HS12_:=(hb.cell (World.block_lt_of_cell? _ _ (hHeld.2.2.2.2.2.2.2.2.2.2.2.2.1))).trans (hHeld.2.2.2.2.2.2.2.2.2.2.2.2.1)
                  have HS13_:=(hb.cell (World.block_lt_of_cell? _ _ (hHeld.2.2.2.2.2.2.2.2.2.2.2.2.2.1))).trans (hHeld.2.2.2.2.2.2.2.2.2.2.2.2.2.1)
                  have HS14_:=(hb.cell (World.block_lt_of_cell? _ _ (hHeld.2.2.2.2.2.2.2.2.2.2.2.2.2.2.1))).trans (hHeld.2.2.2.2.2.2.2.2.2.2.2.2.2.2.1)
                  have HS15_:=(hb.cell (World.block_lt_of_cell? _ _ (hHeld.2.2.2.2.2.2.2.2.2.2.2.2.2.2.2.1))).trans (hHeld.2.2.2.2.2.2.2.2.2.2.2.2.2.2.2.1)
                  have HS16_:=(hb.cell (World.block_lt_of_cell? _ _ (hHeld.2.2.2.2.2.2.2.2.2.2.2.2.2.2.2.2.1))).trans (hHeld.2.2.2.2.2.2.2.2.2.2.2.2.2.2.2.2.1)
                  have HS17_:=(hb.cell (World.block_lt_of_cell? _ _ (hHeld.2.2.2.2.2.2.2.2.2.2.2.2.2.2.2.2.2.1))).trans (hHeld.2.2.2.2.2.2.2.2.2.2.2.2.2.2.2.2.2.1)
                  have HS18_:=(hb.cell (World.block_lt_of_cell? _ _ (hHeld.2.2.2.2.2.2.2.2.2.2.2.2.2.2.2.2.2.2.1))).trans (hHeld.2.2.2.2.2.2.2.2.2.2.2.2.2.2.2.2.2.2.1)
                  have HS19_:=(hb.cell (World.block_lt_of_cell? _ _ (hHeld.2.2.2.2.2.2.2.2.2.2.2.2.2.2.2.2.2.2.2.1))).trans (hHeld.2.2.2.2.2.2.2.2.2.2.2.2.2.2.2.2.2.2.2.1)
                  have HS20_:=(hb.cell (World.block_lt_of_cell? _ _ (hHeld.2.2.2.2.2.2.2.2.2.2.2.2.2.2.2.2.2.2.2.2.1))).trans (hHeld.2.2.2.2.2.2.2.2.2.2.2.2.2.2.2.2.2.2.2.2.1)
                  have HS21_:=(hb.cell (World.block_lt_of_cell? _ _ (hHeld.2.2.2.2.2.2.2.2.2.2.2.2.2.2.2.2.2.2.2.2.2))).trans (hHeld.2.2.2.2.2.2.2.2.2.2.2.2.2.2.2.2.2.2.2.2.2)
                  refine ⟨_,rfl,?_⟩
                  have n0_:=A0_.mk (Kd.R_below (by (with_reducible repeat (first|apply Kd.R_alloc|apply Kd.R_drewN|apply Kd.R_drew));exact HO_15.out) hb)
                  have n1_:=A0_.mk (Kd.R_below (by (with_reducible repeat (first|apply Kd.R_alloc|apply Kd.R_drewN|apply Kd.R_drew));exact HO_372001.out) hb)
                  have n2_:=A0_.mk (Kd.R_below (by (with_reducible repeat (first|apply Kd.R_alloc|apply Kd.R_drewN|apply Kd.R_drew));exact HO_372002.out) hb)
                  have n3_:=A0_.mk (Kd.S_below (by (with_reducible repeat (first|apply Kd.S_alloc|apply Kd.S_drewN|apply Kd.S_drew));exact HO_372003.out) hb)
                  have n4_:=A0_.mk (Kd.R_below (by (with_reducible repeat (first|apply Kd.R_alloc|apply Kd.R_drewN|apply Kd.R_drew));exact HO_390001.out) hb)
                  have n5_:=A0_.mk (Kd.R_below (by (with_reducible repeat (first|apply Kd.R_alloc|apply Kd.R_drewN|apply Kd.R_drew));exact HO_390002.out) hb)
                  have n6_:=A0_.mk (Kd.S_below (by (with_reducible repeat (first|apply Kd.S_alloc|apply Kd.S_drewN|apply Kd.S_drew));exact HO_390003.out) hb)
                  have n7_:=A0_.mk (Kd.R_below (by (with_reducible repeat (first|apply Kd.R_alloc|apply Kd.R_drewN|apply Kd.R_drew));exact HL397_1.out) hb)
                  have n8_:=A0_.mk (Kd.R_below (by (with_reducible repeat (first|apply Kd.R_alloc|apply Kd.R_drewN|apply Kd.R_drew));exact HL397_2.out) hb)
                  have n9_:=A0_.mk (Kd.R_below (by (with_reducible repeat (first|apply Kd.R_alloc|apply Kd.R_drewN|apply Kd.R_drew));exact HL397_3.out) hb)
                  have n10_:=A0_.mk (blk_below (g:=gb356) (o:=.cells #[.int .i64 a2_0,.int .i64 a2_1] 30 (0,0)) (by (with_reducible repeat (first|refine bN_ ?_ _|refine bD_ ?_|refine bA_ ?_ _));exact BK356.out) hb)
                  have n11_:=A0_.mk (blk_below (g:=gb371) (o:=.cells #[.int .i64 t358,.slice Ao35 t359.length co35,.slice Ao36 t362.length co36,.slice Ao37 t365.length co37,.int .i64 t368] 28 (0,0)) (by (with_reducible repeat (first|refine bN_ ?_ _|refine bD_ ?_|refine bA_ ?_ _));exact BK371.out) hb)
                  have n12_:=A0_.mk (blk_below (g:=gb372) (o:=.cells #[.int .i64 t369,.int .i64 t370] 40 (0,0)) (by (with_reducible repeat (first|refine bN_ ?_ _|refine bD_ ?_|refine bA_ ?_ _));exact BK372.out) hb)
                  have n13_:=A0_.mk (blk_below (g:=gb389) (o:=.cells #[.int .i64 t376,.slice Ao98 t377.length co98,.slice Ao99 t380.length co99,.slice Ao100 t383.length co100,.int .i64 t386] 28 (0,0)) (by (with_reducible repeat (first|refine bN_ ?_ _|refine bD_ ?_|refine bA_ ?_ _));exact BK389.out) hb)
                  have n14_:=A0_.mk (blk_below (g:=gb390) (o:=.cells #[.int .i64 t387,.int .i64 t388] 40 (0,0)) (by (with_reducible repeat (first|refine bN_ ?_ _|refine bD_ ?_|refine bA_ ?_ _));exact BK390.out) hb)
                  have n15_:=A0_.mk (blk_below (g:=gb396) (o:=.cells #[.int .i64 t394,.int .i64 t395] 40 (0,0)) (by (with_reducible repeat (first|refine bN_ ?_ _|refine bD_ ?_|refine bA_ ?_ _));exact BK396.out) hb)
                  have n16_:=A0_.mk (Kd.C_below (by repeat (first|(with_reducible exact HR397_1.out)|(with_reducible refine Kd.C_alloc ?_ _)|(with_reducible refine Kd.C_drewN ?_ _)|(with_reducible refine Kd.C_drew ?_)|exact HR397_1.out)) hb)
                  have n17_:=A0_.mk (Kd.C_below (by repeat (first|(with_reducible exact HR397_2.out)|(with_reducible refine Kd.C_alloc ?_ _)|(with_reducible refine Kd.C_drewN ?_ _)|(with_reducible refine Kd.C_drew ?_)|exact HR397_2.out)) hb)
                  have n18_:=A0_.mk (Kd.C_below (by repeat (first|(with_reducible exact HR397_3.out)|(with_reducible refine Kd.C_alloc ?_ _)|(with_reducible refine Kd.C_drewN ?_ _)|(with_reducible refine Kd.C_drew ?_)|exact HR397_3.out)) hb)
                  have n19_:=A0_.mk (below_step (by repeat (first|(with_reducible first|exact HB.out|apply eA_|apply eN_|apply eD_|refine eS_ ?_ GE356.out|refine eS_ ?_ GE371.out|refine eS_ ?_ GE372.out|refine eS_ ?_ GE389.out|refine eS_ ?_ GE390.out|refine eS_ ?_ GE396.out)|exact HB.out)) hb)
                  clear HO_15
                  clear HO_372001
                  clear HO_372002
                  clear HO_372003
                  clear HO_390001
                  clear HO_390002
                  clear HO_390003
                  clear HL397_1
                  clear HL397_2
                  clear HL397_3
                  clear BK356
                  clear BK371
                  clear BK372
                  clear BK389
                  clear BK390
                  clear BK396
                  clear HR397_1
                  clear HR397_2
                  clear HR397_3
                  clear HB
                  have HO_15:=n0_
                  have HO_372001:=n1_
                  have HO_372002:=n2_
                  have HO_372003:=n3_
                  have HO_390001:=n4_
                  have HO_390002:=n5_
                  have HO_390003:=n6_
                  have HL397_1:=n7_
                  have HL397_2:=n8_
                  have HL397_3:=n9_
                  have BK356:=n10_
                  have BK371:=n11_
                  have BK372:=n12_
                  have BK389:=n13_
                  have BK390:=n14_
                  have BK396:=n15_
                  have HR397_1:=n16_
                  have HR397_2:=n17_
                  have HR397_3:=n18_
                  have HB:=n19_
                  clear n0_ n1_ n2_ n3_ n4_ n5_ n6_ n7_ n8_ n9_ n10_ n11_ n12_ n13_ n14_ n15_ n16_ n17_ n18_ n19_
                  (try clear hb)
                  (try clear hb2)
                  (try clear hk)
                  (try clear hi)
                  refine hK.out _ _ ⟨(bC_ BK396.out 0).trans rfl,(bC_ BK396.out 1).trans rfl,(bC_ BK371.out 0).trans rfl,(bC_ BK371.out 1).trans rfl,(bC_ BK371.out 2).trans rfl,(bC_ BK371.out 3).trans rfl,(bC_ BK371.out 4).trans rfl,(bC_ BK389.out 0).trans rfl,(bC_ BK389.out 1).trans rfl,(bC_ BK389.out 2).trans rfl,(bC_ BK389.out 3).trans rfl,(bC_ BK389.out 4).trans rfl,HS12_,HS13_,HS14_,HS15_,HS16_,HS17_,HS18_,HS19_,HS20_,HS21_⟩ (fun hHeld => ?_)
                  clear hK K
                  refine norm_ (a':=?_) ?_ ?_
                  rotate_left
                  ·show Act.put _ (some 145) _ = _
                   simp only [Act.put,List.setIfInBounds_toArray,List.set_cons_zero,List.set_cons_succ,i64_w,i32_w]
                   rfl
                  refine pure_ (i:=14) (N:=some 146) (v:=?_) (a':=?_) #[true,true,true,true,true,true,true,true,true,true,true,true,true,true,true,false,false,false,false,false,false,false,false] rfl rfl (any_of HT_.out (by kernel_rfl)) (fun _ _ _ h => h) (Or.inl ⟨by rfl,?_⟩) ?_ ?_
                  rotate_left
                  ·intro w'
                   go_simp
                   with_reducible rfl
                  rotate_left
                  ·simp only [Act.put,List.setIfInBounds_toArray,List.set_cons_zero,List.set_cons_succ,i64_w,i32_w]
                   rfl
                  refine pure_ (i:=15) (N:=some 147) (v:=?_) (a':=?_) #[true,true,true,true,true,true,true,true,true,true,true,true,true,true,true,true,false,false,false,false,false,false,false] rfl rfl (any_of HT_.out (by kernel_rfl)) (fun _ _ _ h => h) (Or.inl ⟨by rfl,?_⟩) ?_ ?_
                  rotate_left
                  ·intro w'
                   go_simp
                   with_reducible rfl
                  rotate_left
                  ·simp only [Act.put,List.setIfInBounds_toArray,List.set_cons_zero,List.set_cons_succ,i64_w,i32_w]
                   rfl
                  refine pure_ (i:=16) (N:=some 148) (v:=?_) (a':=?_) #[true,true,true,true,true,true,true,true,true,true,true,true,true,true,true,true,true,false,false,false,false,false,false] rfl rfl (any_of HT_.out (by kernel_rfl)) (fun _ _ _ h => h) (Or.inl ⟨by rfl,?_⟩) ?_ ?_
                  rotate_left
                  ·intro w'
                   go_simp
                   with_reducible rfl
                  rotate_left
                  ·simp only [Act.put,List.setIfInBounds_toArray,List.set_cons_zero,List.set_cons_succ,i64_w,i32_w]
                   rfl
                  refine pure_ (i:=17) (N:=some 149) (v:=?_) (a':=?_) #[true,true,true,true,true,true,true,true,true,true,true,true,true,true,true,true,true,true,false,false,false,false,false] rfl rfl (any_of HT_.out (by kernel_rfl)) (fun _ _ _ h => h) (Or.inl ⟨by rfl,?_⟩) ?_ ?_
                  rotate_left
                  ·intro w'
                   go_simp
                   with_reducible rfl
                  rotate_left
                  ·simp only [Act.put,List.setIfInBounds_toArray,List.set_cons_zero,List.set_cons_succ,i64_w,i32_w]
                   rfl
                  refine take_ (i:=18) (N:=some 150) (v:=?_) (a':=?_) #[true,true,true,true,true,true,true,true,true,true,true,true,true,true,true,true,true,true,true,false,false,false,false] rfl rfl (take_ofW HT_.out HW_.out (by kernel_rfl)) (fun _ _ _ h => h) (Or.inl ⟨by rfl,?_⟩) hHeld ?_ ?_
                  rotate_left
                  ·rintro w' ⟨s0,s1,s2,s3,s4,s5,s6,s7,s8,s9,s10,s11,s12,s13,s14,s15,s16,s17,s18,s19,s20,s21⟩
                   go_simp
                   with_reducible rfl
                  rotate_left
                  ·simp only [Act.put,List.setIfInBounds_toArray,List.set_cons_zero,List.set_cons_succ,i64_w,i32_w]
                   rfl
                  refine take_ (i:=19) (N:=some 151) (v:=?_) (a':=?_) #[true,true,true,true,true,true,true,true,true,true,true,true,true,true,true,true,true,true,true,true,false,false,false] rfl rfl (take_ofW HT_.out HW_.out (by kernel_rfl)) (fun _ _ _ h => h) (Or.inl ⟨by rfl,?_⟩) hHeld ?_ ?_
                  rotate_left
                  ·rintro w' ⟨s0,s1,s2,s3,s4,s5,s6,s7,s8,s9,s10,s11,s12,s13,s14,s15,s16,s17,s18,s19,s20,s21⟩
                   go_simp
                   with_reducible rfl
                  rotate_left
                  ·simp only [Act.put,List.setIfInBounds_toArray,List.set_cons_zero,List.set_cons_succ,i64_w,i32_w]
                   rfl
                  refine one_ (i:=20) (N:=some 152) #[true,true,true,true,true,true,true,true,true,true,true,true,true,true,true,true,true,true,true,true,true,false,false] rfl rfl (one_of HT_.out (by kernel_rfl)) (by decide) (fun K hK => ?_)
                  refine goes_ Tryd.func17 (by kernel_rfl) rfl #[.agg #[.int .i64 ((rd_T28 t391 1).f0),.slice A399_1 ((rd_T28 t391 1).f1).length c399_1,.slice A399_2 ((rd_T28 t391 1).f2.f0).length c399_2,.slice A399_3 ((rd_T28 t391 1).f2.f1).length c399_3,.int .i64 ((rd_T28 t391 1).f2.f2)],.agg #[.int .i64 t376,.slice Ao98 t377.length co98,.slice Ao99 t380.length co99,.slice Ao100 t383.length co100,.int .i64 t386]] (by rfl) rfl rfl (by (try simp only [List.map_toArray,List.map_cons,List.map_nil]);first|done|rfl|(simp only [List.length_drop,List.length_take];rfl)) ?_
                  with_reducible refine (trestlelaw12_same.calls kj85 ((rd_T28 t391 1).f0) _ _ ((rd_T28 t391 1).f1) _ _ ((rd_T28 t391 1).f2.f0) _ _ ((rd_T28 t391 1).f2.f1) ((rd_T28 t391 1).f2.f2) t376 _ _ t377 _ _ t380 _ _ t383 t386 t400 _ ?side1 ?side2 ?side3 ?side4 ?side5 ?side6 ?side7 ?side8 ?side9 ?side10 ?side11 ?side12 A134.out).mono ?_
                  (case side1 => repeat (first|exact (by repeat (first|(with_reducible exact HR399_1.out)|(with_reducible refine Kd.C_alloc ?_ _)|(with_reducible refine Kd.C_drewN ?_ _)|(with_reducible refine Kd.C_drew ?_)|exact HR399_1.out))|(with_reducible refine Kd.C_alloc ?_ _)|(with_reducible refine Kd.C_drewN ?_ _)|(with_reducible refine Kd.C_drew ?_)))
                  (case side2 => exact HC399_1.out)
                  (case side3 => repeat (first|exact (by repeat (first|(with_reducible exact HR399_2.out)|(with_reducible refine Kd.C_alloc ?_ _)|(with_reducible refine Kd.C_drewN ?_ _)|(with_reducible refine Kd.C_drew ?_)|exact HR399_2.out))|(with_reducible refine Kd.C_alloc ?_ _)|(with_reducible refine Kd.C_drewN ?_ _)|(with_reducible refine Kd.C_drew ?_)))
                  (case side4 => exact HC399_2.out)
                  (case side5 => repeat (first|exact (by repeat (first|(with_reducible exact HR399_3.out)|(with_reducible refine Kd.C_alloc ?_ _)|(with_reducible refine Kd.C_drewN ?_ _)|(with_reducible refine Kd.C_drew ?_)|exact HR399_3.out))|(with_reducible refine Kd.C_alloc ?_ _)|(with_reducible refine Kd.C_drewN ?_ _)|(with_reducible refine Kd.C_drew ?_)))
                  (case side6 => exact HC399_3.out)
                  (case side7 => repeat (first|exact (Kd.R_reads' HO_390001.out).2.2|(with_reducible refine Kd.C_alloc ?_ _)|(with_reducible refine Kd.C_drewN ?_ _)|(with_reducible refine Kd.C_drew ?_)))
                  (case side8 => exact (Kd.R_reads' HO_390001.out).2.1)
                  (case side9 => repeat (first|exact (Kd.R_reads' HO_390002.out).2.2|(with_reducible refine Kd.C_alloc ?_ _)|(with_reducible refine Kd.C_drewN ?_ _)|(with_reducible refine Kd.C_drew ?_)))
                  (case side10 => exact (Kd.R_reads' HO_390002.out).2.1)
                  (case side11 => repeat (first|exact (Kd.S_reads' HO_390003.out).2.2|(with_reducible refine Kd.C_alloc ?_ _)|(with_reducible refine Kd.C_drewN ?_ _)|(with_reducible refine Kd.C_drew ?_)))
                  (case side12 => exact (Kd.S_reads' HO_390003.out).2.1)
                  rintro e w138 ⟨rfl,hb⟩
                  have HS12_:=(hb.cell (World.block_lt_of_cell? _ _ (hHeld.2.2.2.2.2.2.2.2.2.2.2.2.1))).trans (hHeld.2.2.2.2.2.2.2.2.2.2.2.2.1)
                  have HS13_:=(hb.cell (World.block_lt_of_cell? _ _ (hHeld.2.2.2.2.2.2.2.2.2.2.2.2.2.1))).trans (hHeld.2.2.2.2.2.2.2.2.2.2.2.2.2.1)
                  have HS14_:=(hb.cell (World.block_lt_of_cell? _ _ (hHeld.2.2.2.2.2.2.2.2.2.2.2.2.2.2.1))).trans (hHeld.2.2.2.2.2.2.2.2.2.2.2.2.2.2.1)
                  have HS15_:=(hb.cell (World.block_lt_of_cell? _ _ (hHeld.2.2.2.2.2.2.2.2.2.2.2.2.2.2.2.1))).trans (hHeld.2.2.2.2.2.2.2.2.2.2.2.2.2.2.2.1)
                  have HS16_:=(hb.cell (World.block_lt_of_cell? _ _ (hHeld.2.2.2.2.2.2.2.2.2.2.2.2.2.2.2.2.1))).trans (hHeld.2.2.2.2.2.2.2.2.2.2.2.2.2.2.2.2.1)
                  have HS17_:=(hb.cell (World.block_lt_of_cell? _ _ (hHeld.2.2.2.2.2.2.2.2.2.2.2.2.2.2.2.2.2.1))).trans (hHeld.2.2.2.2.2.2.2.2.2.2.2.2.2.2.2.2.2.1)
                  have HS18_:=(hb.cell (World.block_lt_of_cell? _ _ (hHeld.2.2.2.2.2.2.2.2.2.2.2.2.2.2.2.2.2.2.1))).trans (hHeld.2.2.2.2.2.2.2.2.2.2.2.2.2.2.2.2.2.2.1)
                  have HS19_:=(hb.cell (World.block_lt_of_cell? _ _ (hHeld.2.2.2.2.2.2.2.2.2.2.2.2.2.2.2.2.2.2.2.1))).trans (hHeld.2.2.2.2.2.2.2.2.2.2.2.2.2.2.2.2.2.2.2.1)
                  have HS20_:=(hb.cell (World.block_lt_of_cell? _ _ (hHeld.2.2.2.2.2.2.2.2.2.2.2.2.2.2.2.2.2.2.2.2.1))).trans (hHeld.2.2.2.2.2.2.2.2.2.2.2.2.2.2.2.2.2.2.2.2.1)
                  have HS21_:=(hb.cell (World.block_lt_of_cell? _ _ (hHeld.2.2.2.2.2.2.2.2.2.2.2.2.2.2.2.2.2.2.2.2.2))).trans (hHeld.2.2.2.2.2.2.2.2.2.2.2.2.2.2.2.2.2.2.2.2.2)
                  refine ⟨_,rfl,?_⟩
                  have n0_:=A0_.mk (Kd.R_below (by (with_reducible repeat (first|apply Kd.R_alloc|apply Kd.R_drewN|apply Kd.R_drew));exact HO_15.out) hb)
                  have n1_:=A0_.mk (Kd.R_below (by (with_reducible repeat (first|apply Kd.R_alloc|apply Kd.R_drewN|apply Kd.R_drew));exact HO_372001.out) hb)
                  have n2_:=A0_.mk (Kd.R_below (by (with_reducible repeat (first|apply Kd.R_alloc|apply Kd.R_drewN|apply Kd.R_drew));exact HO_372002.out) hb)
                  have n3_:=A0_.mk (Kd.S_below (by (with_reducible repeat (first|apply Kd.S_alloc|apply Kd.S_drewN|apply Kd.S_drew));exact HO_372003.out) hb)
                  have n4_:=A0_.mk (Kd.R_below (by (with_reducible repeat (first|apply Kd.R_alloc|apply Kd.R_drewN|apply Kd.R_drew));exact HO_390001.out) hb)
                  have n5_:=A0_.mk (Kd.R_below (by (with_reducible repeat (first|apply Kd.R_alloc|apply Kd.R_drewN|apply Kd.R_drew));exact HO_390002.out) hb)
                  have n6_:=A0_.mk (Kd.S_below (by (with_reducible repeat (first|apply Kd.S_alloc|apply Kd.S_drewN|apply Kd.S_drew));exact HO_390003.out) hb)
                  have n7_:=A0_.mk (Kd.R_below (by (with_reducible repeat (first|apply Kd.R_alloc|apply Kd.R_drewN|apply Kd.R_drew));exact HL397_1.out) hb)
                  have n8_:=A0_.mk (Kd.R_below (by (with_reducible repeat (first|apply Kd.R_alloc|apply Kd.R_drewN|apply Kd.R_drew));exact HL397_2.out) hb)
                  have n9_:=A0_.mk (Kd.R_below (by (with_reducible repeat (first|apply Kd.R_alloc|apply Kd.R_drewN|apply Kd.R_drew));exact HL397_3.out) hb)
                  have n10_:=A0_.mk (Kd.R_below (by (with_reducible repeat (first|apply Kd.R_alloc|apply Kd.R_drewN|apply Kd.R_drew));exact HL399_1.out) hb)
                  have n11_:=A0_.mk (Kd.R_below (by (with_reducible repeat (first|apply Kd.R_alloc|apply Kd.R_drewN|apply Kd.R_drew));exact HL399_2.out) hb)
                  have n12_:=A0_.mk (Kd.R_below (by (with_reducible repeat (first|apply Kd.R_alloc|apply Kd.R_drewN|apply Kd.R_drew));exact HL399_3.out) hb)
                  have n13_:=A0_.mk (blk_below (g:=gb356) (o:=.cells #[.int .i64 a2_0,.int .i64 a2_1] 30 (0,0)) (by (with_reducible repeat (first|refine bN_ ?_ _|refine bD_ ?_|refine bA_ ?_ _));exact BK356.out) hb)
                  have n14_:=A0_.mk (blk_below (g:=gb371) (o:=.cells #[.int .i64 t358,.slice Ao35 t359.length co35,.slice Ao36 t362.length co36,.slice Ao37 t365.length co37,.int .i64 t368] 28 (0,0)) (by (with_reducible repeat (first|refine bN_ ?_ _|refine bD_ ?_|refine bA_ ?_ _));exact BK371.out) hb)
                  have n15_:=A0_.mk (blk_below (g:=gb372) (o:=.cells #[.int .i64 t369,.int .i64 t370] 40 (0,0)) (by (with_reducible repeat (first|refine bN_ ?_ _|refine bD_ ?_|refine bA_ ?_ _));exact BK372.out) hb)
                  have n16_:=A0_.mk (blk_below (g:=gb389) (o:=.cells #[.int .i64 t376,.slice Ao98 t377.length co98,.slice Ao99 t380.length co99,.slice Ao100 t383.length co100,.int .i64 t386] 28 (0,0)) (by (with_reducible repeat (first|refine bN_ ?_ _|refine bD_ ?_|refine bA_ ?_ _));exact BK389.out) hb)
                  have n17_:=A0_.mk (blk_below (g:=gb390) (o:=.cells #[.int .i64 t387,.int .i64 t388] 40 (0,0)) (by (with_reducible repeat (first|refine bN_ ?_ _|refine bD_ ?_|refine bA_ ?_ _));exact BK390.out) hb)
                  have n18_:=A0_.mk (blk_below (g:=gb396) (o:=.cells #[.int .i64 t394,.int .i64 t395] 40 (0,0)) (by (with_reducible repeat (first|refine bN_ ?_ _|refine bD_ ?_|refine bA_ ?_ _));exact BK396.out) hb)
                  have n19_:=A0_.mk (Kd.C_below (by repeat (first|(with_reducible exact HR397_1.out)|(with_reducible refine Kd.C_alloc ?_ _)|(with_reducible refine Kd.C_drewN ?_ _)|(with_reducible refine Kd.C_drew ?_)|exact HR397_1.out)) hb)
                  have n20_:=A0_.mk (Kd.C_below (by repeat (first|(with_reducible exact HR397_2.out)|(with_reducible refine Kd.C_alloc ?_ _)|(with_reducible refine Kd.C_drewN ?_ _)|(with_reducible refine Kd.C_drew ?_)|exact HR397_2.out)) hb)
                  have n21_:=A0_.mk (Kd.C_below (by repeat (first|(with_reducible exact HR397_3.out)|(with_reducible refine Kd.C_alloc ?_ _)|(with_reducible refine Kd.C_drewN ?_ _)|(with_reducible refine Kd.C_drew ?_)|exact HR397_3.out)) hb)
                  have n22_:=A0_.mk (Kd.C_below (by repeat (first|(with_reducible exact HR399_1.out)|(with_reducible refine Kd.C_alloc ?_ _)|(with_reducible refine Kd.C_drewN ?_ _)|(with_reducible refine Kd.C_drew ?_)|exact HR399_1.out)) hb)
                  have n23_:=A0_.mk (Kd.C_below (by repeat (first|(with_reducible exact HR399_2.out)|(with_reducible refine Kd.C_alloc ?_ _)|(with_reducible refine Kd.C_drewN ?_ _)|(with_reducible refine Kd.C_drew ?_)|exact HR399_2.out)) hb)
                  have n24_:=A0_.mk (Kd.C_below (by repeat (first|(with_reducible exact HR399_3.out)|(with_reducible refine Kd.C_alloc ?_ _)|(with_reducible refine Kd.C_drewN ?_ _)|(with_reducible refine Kd.C_drew ?_)|exact HR399_3.out)) hb)
                  have n25_:=A0_.mk (below_step (by repeat (first|(with_reducible first|exact HB.out|apply eA_|apply eN_|apply eD_|refine eS_ ?_ GE356.out|refine eS_ ?_ GE371.out|refine eS_ ?_ GE372.out|refine eS_ ?_ GE389.out|refine eS_ ?_ GE390.out|refine eS_ ?_ GE396.out)|exact HB.out)) hb)
                  clear HO_15
                  clear HO_372001
                  clear HO_372002
                  clear HO_372003
                  clear HO_390001
                  clear HO_390002
                  clear HO_390003
                  clear HL397_1
                  clear HL397_2
                  clear HL397_3
                  clear HL399_1
                  clear HL399_2
                  clear HL399_3
                  clear BK356
                  clear BK371
                  clear BK372
                  clear BK389
                  clear BK390
                  clear BK396
                  clear HR397_1
                  clear HR397_2
                  clear HR397_3
                  clear HR399_1
                  clear HR399_2
                  clear HR399_3
                  clear HB
                  have HO_15:=n0_
                  have HO_372001:=n1_
                  have HO_372002:=n2_
                  have HO_372003:=n3_
                  have HO_390001:=n4_
                  have HO_390002:=n5_
                  have HO_390003:=n6_
                  have HL397_1:=n7_
                  have HL397_2:=n8_
                  have HL397_3:=n9_
                  have HL399_1:=n10_
                  have HL399_2:=n11_
                  have HL399_3:=n12_
                  have BK356:=n13_
                  have BK371:=n14_
                  have BK372:=n15_
                  have BK389:=n16_
                  have BK390:=n17_
                  have BK396:=n18_
                  have HR397_1:=n19_
                  have HR397_2:=n20_
                  have HR397_3:=n21_
                  have HR399_1:=n22_
                  have HR399_2:=n23_
                  have HR399_3:=n24_
                  have HB:=n25_
                  clear n0_ n1_ n2_ n3_ n4_ n5_ n6_ n7_ n8_ n9_ n10_ n11_ n12_ n13_ n14_ n15_ n16_ n17_ n18_ n19_ n20_ n21_ n22_ n23_ n24_ n25_
                  (try clear hb)
                  (try clear hb2)
                  (try clear hk)
                  (try clear hi)
                  refine hK.out _ _ ⟨(bC_ BK396.out 0).trans rfl,(bC_ BK396.out 1).trans rfl,(bC_ BK371.out 0).trans rfl,(bC_ BK371.out 1).trans rfl,(bC_ BK371.out 2).trans rfl,(bC_ BK371.out 3).trans rfl,(bC_ BK371.out 4).trans rfl,(bC_ BK389.out 0).trans rfl,(bC_ BK389.out 1).trans rfl,(bC_ BK389.out 2).trans rfl,(bC_ BK389.out 3).trans rfl,(bC_ BK389.out 4).trans rfl,HS12_,HS13_,HS14_,HS15_,HS16_,HS17_,HS18_,HS19_,HS20_,HS21_⟩ (fun hHeld => ?_)
                  clear hK K
                  refine norm_ (a':=?_) ?_ ?_
                  rotate_left
                  ·show Act.put _ (some 152) _ = _
                   simp only [Act.put,List.setIfInBounds_toArray,List.set_cons_zero,List.set_cons_succ,i64_w,i32_w]
                   rfl
                  refine pure_ (i:=21) (N:=some 153) (v:=?_) (a':=?_) #[true,true,true,true,true,true,true,true,true,true,true,true,true,true,true,true,true,true,true,true,true,true,false] rfl rfl (any_of HT_.out (by kernel_rfl)) (fun _ _ _ h => h) (Or.inl ⟨by rfl,?_⟩) ?_ ?_
                  rotate_left
                  ·intro w'
                   go_simp
                   with_reducible rfl
                  rotate_left
                  ·simp only [Act.put,List.setIfInBounds_toArray,List.set_cons_zero,List.set_cons_succ,i64_w,i32_w]
                   rfl
                  refine pure_ (i:=22) (N:=some 6) (v:=?_) (a':=?_) #[true,true,true,true,true,true,true,true,true,true,true,true,true,true,true,true,true,true,true,true,true,true,true] rfl rfl (any_of HT_.out (by kernel_rfl)) (fun _ _ _ h => h) (Or.inl ⟨by rfl,?_⟩) ?_ ?_
                  rotate_left
                  ·intro w'
                   go_simp
                   with_reducible rfl
                  rotate_left
                  ·simp only [Act.put,List.setIfInBounds_toArray,List.set_cons_zero,List.set_cons_succ,i64_w,i32_w]
                   rfl
                  refine done_ (done_of HT_.out (by kernel_rfl)) ?_
                  try go_wp2
                  go_ret
                  exact ⟨by first|rfl|(simp [errW_none,errW_some] <;> rfl)|(simp [*,errW_none,errW_some] <;> rfl),by repeat (first|(with_reducible first|exact HB.out|apply eA_|apply eN_|apply eD_|refine eS_ ?_ GE356.out|refine eS_ ?_ GE371.out|refine eS_ ?_ GE372.out|refine eS_ ?_ GE389.out|refine eS_ ?_ GE390.out|refine eS_ ?_ GE396.out)|exact HB.out)⟩
                 ·rw [if_neg c133] at H
                  exact absurd H (by simp)
                ·replace c132:=Bool.eq_false_iff.mpr c132
                 subst c132
                 have H1 : (none) = some r:=by rw [if_neg (show ¬ (false = true) by decide)] at H;exact H
                 clear H
                 have H:=H1
                 clear H1
                 exact absurd H (by simp)
               ·rw [if_neg c130] at H
                exact absurd H (by simp)
              ·rw [if_neg c129] at H
               have c129b0 : ((t391.length : Int) == 2) = false:=beq_eq_false_iff_ne.mpr c129
               have c129b1 : ((t391.length : Int) != 2) = true:=bne_iff_ne.mpr c129
               exact absurd H (by simp)
             ·rw [if_neg c128] at H
              have c128b0 : (t394 == 0 && (t395 == 0)) = false:=by simpa using c128
              (try (have c128b1 : decide (t394 = 0 && (t395 == 0)) = false:=by simpa using c128))
              (try (have c128b2 : (t394 == 0 && (t395 == 0)) = false:=by simpa using c128))
              (try (have c128b3 : ¬ (t394 = 0 && (t395 == 0)):=by simpa using c128))
              clear c128
              exact absurd H (by simp)
         ·rw [if_neg c84] at H
          exact absurd H (by simp)
 ·replace c5:=Bool.eq_false_iff.mpr c5
  subst c5
  have H1 : (none) = some r:=by rw [if_neg (show ¬ (false = true) by decide)] at H;exact H
  clear H
  have H:=H1
  clear H1
  exact absurd H (by simp)
end Go.Proofs.YtojepjkpnponoaaDoor.Stim

