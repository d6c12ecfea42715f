import Derived.Test.YtdmngdohlobogaaGreatDoorYAsc0
import Derived.Test.YtdmngdohlobogaaGreatDoorYGV
namespace Go.Proofs.YtdmngdohlobogaaGreatDoor.Asc
open Go.RowKit Go.Proofs.YtdmngdohlobogaaGreatDoorW.PrintWords Go.Proofs.YtdmngdohlobogaaGreatDoorW.PrintLast Go.Proofs.YtdmngdohlobogaaGreatDoorW.PrintMore
attribute [local go_sem] max2_int min2_int max_two min_two max_three min_three max_four min_four
set_option linter.unusedVariables false
set_option linter.unusedSimpArgs false
def shape_total.l0 : Nat → Int → List (List Int) → Int → Int → Option (Int)
 |0,_,_,_,_ => none
 |k + 1,x3,x6,x7,x8 => if x8 < x7 then (if 0 ≤ x8 then (if x8 < (x6.length : Int) then (shape_total.l0 k (wrap64 (x3 + ((rd_L2 x6 x8).length : Int))) x6 x7 (wrap64 (x8 + 1))) else (none)) else (none)) else (some x3)
def shape_total.f (k : Nat) (l0 : List (List Int)) : Option (Int):=shape_total.l0 k 0 l0 (l0.length : Int) 0
set_option maxHeartbeats 8000000 in
set_option maxRecDepth 100000 in
theorem shape_total.calls (k : Nat) (A0 : Option Addr) (c0 : Nat) (l0 : List (List Int)) (r : Int) (w : World) (hr0 : Kd.C (Kd.slice 3 (Kd.int .i64)) w A0 l0.length l0) (hc0 : l0.length ≤ c0) (h : shape_total.f k l0 = some r) :
  Calls Tryz.prog 110 #[.slice A0 l0.length c0] w fun e w' => e = .returned (.int .i64 r) ∧ Drawn0 w w':=by
 have HR0:=A0_.mk hr0
 have HC0:=A0_.mk hc0
 clear hr0 hc0
 have H : (shape_total.l0 k 0 l0 (l0.length : Int) 0) = some r:=h
 clear h
 have H':=A0_.mk H
 clear H
 go_enter Tryz.func110,Tryz.ntmps110
 go_wp2
 (try simp only [Act.put,sA_,sB_,sC_])
 go_loopg [3,8] k (fun kq v3 v8 w' => ∃ (x3_1 : Int) (x8_1 : Int),v3 = .int .i64 x3_1 ∧ v8 = .int .i64 x8_1 ∧ A0_ (shape_total.l0 kq x3_1 l0 (l0.length : Int) x8_1 = some r) ∧ A0_ (kq ≤ k) ∧ Drawn0 w w')
 case atStart => exact ⟨(0),(0),(by first|rfl|(simp;done)|(simp [*];done)),(by first|rfl|(simp;done)|(simp [*];done)),H',⟨Nat.le_refl _⟩,by repeat (first|exact Drawn0.refl _|apply Drawn0.step)⟩
 case round =>
  clear H'
  try clear c1
  obtain ⟨x3_1,x8_1,rfl,rfl,HA,HK1,⟨m1,rfl⟩⟩:=hrel
  cases gk with
  |zero => exact absurd HA.out (by simp [shape_total.l0])
  |succ k1 =>
   have H:=HA.out
   clear HA
   simp only [shape_total.l0] at H
   by_cases c2 : x8_1 < (l0.length : Int)
   ·rw [if_pos c2] at H
    have c2b0 : decide (x8_1 < (l0.length : Int)) = true:=decide_eq_true c2
    clear c2
    by_cases c3 : 0 ≤ x8_1
    ·rw [if_pos c3] at H
     have c3b0 : decide (0 ≤ x8_1) = true:=decide_eq_true c3
     clear c3
     by_cases c4 : x8_1 < (l0.length : Int)
     ·rw [if_pos c4] at H
      have c4b0 : decide (x8_1 < (l0.length : Int)) = true:=decide_eq_true c4
      clear c4
      have H':=A0_.mk H
      clear H
      have p101 : 0 ≤ (x8_1 : Int):=of_decide_eq_true (by first|(with_reducible assumption)|assumption)
      have q101 : x8_1 < (l0.length : Int):=of_decide_eq_true (by first|(with_reducible assumption)|assumption)
      obtain ⟨ad101,A101_0,c101_0,e101,hx101_0,hl101_0,hi101_0⟩:=at_L2 HR0.out x8_1 p101 q101
      cases e101
      have HR101_0:=A0_.mk hi101_0
      have HC101_0:=A0_.mk hl101_0
      clear hi101_0 hl101_0
      replace p101:=eq_true p101
      replace q101:=eq_true q101
      go_wp2
      go_roundg k1
      case measure => have:=HK1.out;omega
      case rel => exact ⟨(wrap64 (x3_1 + ((rd_L2 l0 x8_1).length : Int))),(wrap64 (x8_1 + 1)),(by first|rfl|(simp;done)|(simp [*];done)),(by first|rfl|(simp;done)|(simp [*];done)),H',⟨by have:=HK1.out;omega⟩,by repeat (first|exact Drawn0.refl _|apply Drawn0.step)⟩
     ·rw [if_neg c4] at H
      exact absurd H (by simp)
    ·rw [if_neg c3] at H
     exact absurd H (by simp)
   ·rw [if_neg c2] at H
    have c2b0 : decide (x8_1 < (l0.length : Int)) = false:=decide_eq_false c2
    clear c2
    obtain rfl:=Option.some.inj H
    go_wp2
    go_ret
    exact ⟨by first|rfl|(simp;done)|(simp [*];done),by repeat (first|exact Drawn0.refl _|apply Drawn0.step)⟩
def shape_many.f (a0_0 : Int) (l0_1 : List Int) (l0_2 : List (S108)) (l0_3 : List Int) (l0_4 : List Int) (l0_5 : List Int) (l0_6 : List (List Int)) (l0_7 : List Int) (l0_8 : List (S125)) (l0_9 : List (S59)) (l0_10 : List ByteArray) (a1 : Int) : Option (Int):=if a1 = 105 then (some (l0_1.length : Int)) else (if a1 = 108 then (some (l0_2.length : Int)) else (if a1 = 111 then (some (l0_3.length : Int)) else (if a1 = 98 then (some (l0_4.length : Int)) else (if a1 = 99 then (some (l0_5.length : Int)) else (if a1 = 106 then (some (l0_6.length : Int)) else (if a1 = 102 then (some (l0_7.length : Int)) else (some (-1))))))))
set_option maxHeartbeats 8000000 in
set_option maxRecDepth 100000 in
theorem shape_many.calls (a0_0 : Int) (A0_1 : Option Addr) (c0_1 : Nat) (l0_1 : List Int) (A0_2 : Option Addr) (c0_2 : Nat) (l0_2 : List (S108)) (A0_3 : Option Addr) (c0_3 : Nat) (l0_3 : List Int) (A0_4 : Option Addr) (c0_4 : Nat) (l0_4 : List Int) (A0_5 : Option Addr) (c0_5 : Nat) (l0_5 : List Int) (A0_6 : Option Addr) (c0_6 : Nat) (l0_6 : List (List Int)) (A0_7 : Option Addr) (c0_7 : Nat) (l0_7 : List Int) (A0_8 : Option Addr) (c0_8 : Nat) (l0_8 : List (S125)) (A0_9 : Option Addr) (c0_9 : Nat) (l0_9 : List (S59)) (A0_10 : Option Addr) (c0_10 : Nat) (l0_10 : List ByteArray) (a1 : Int) (r : Int) (w : World) (hr0_1 : Kd.C (Kd.int .i64) w A0_1 l0_1.length l0_1) (hc0_1 : l0_1.length ≤ c0_1) (hr0_2 : Kd.C k108 w A0_2 l0_2.length l0_2) (hc0_2 : l0_2.length ≤ c0_2) (hr0_3 : Kd.C (Kd.int .i64) w A0_3 l0_3.length l0_3) (hc0_3 : l0_3.length ≤ c0_3) (hr0_4 : Kd.C (Kd.int .i64) w A0_4 l0_4.length l0_4) (hc0_4 : l0_4.length ≤ c0_4) (hr0_5 : Kd.C (Kd.int .i64) w A0_5 l0_5.length l0_5) (hc0_5 : l0_5.length ≤ c0_5) (hr0_6 : Kd.C (Kd.slice 3 (Kd.int .i64)) w A0_6 l0_6.length l0_6) (hc0_6 : l0_6.length ≤ c0_6) (hr0_7 : Kd.C (Kd.int .i64) w A0_7 l0_7.length l0_7) (hc0_7 : l0_7.length ≤ c0_7) (hr0_8 : Kd.C k125 w A0_8 l0_8.length l0_8) (hc0_8 : l0_8.length ≤ c0_8) (hr0_9 : Kd.C k59 w A0_9 l0_9.length l0_9) (hc0_9 : l0_9.length ≤ c0_9) (hr0_10 : Kd.C Kd.string w A0_10 l0_10.length l0_10) (hc0_10 : l0_10.length ≤ c0_10) (h : shape_many.f a0_0 l0_1 l0_2 l0_3 l0_4 l0_5 l0_6 l0_7 l0_8 l0_9 l0_10 a1 = some r) :
  Calls Tryz.prog 113 #[.agg #[.int .i64 a0_0,.slice A0_1 l0_1.length c0_1,.slice A0_2 l0_2.length c0_2,.slice A0_3 l0_3.length c0_3,.slice A0_4 l0_4.length c0_4,.slice A0_5 l0_5.length c0_5,.slice A0_6 l0_6.length c0_6,.slice A0_7 l0_7.length c0_7,.slice A0_8 l0_8.length c0_8,.slice A0_9 l0_9.length c0_9,.slice A0_10 l0_10.length c0_10],.int .u8 a1] w fun e w' => e = .returned (.int .i64 r) ∧ Below w.heap.size w w':=by
 have hu65:=Tryz.underlying29
 have HR0_1:=A0_.mk hr0_1
 have HC0_1:=A0_.mk hc0_1
 clear hr0_1 hc0_1
 have HR0_2:=A0_.mk hr0_2
 have HC0_2:=A0_.mk hc0_2
 clear hr0_2 hc0_2
 have HR0_3:=A0_.mk hr0_3
 have HC0_3:=A0_.mk hc0_3
 clear hr0_3 hc0_3
 have HR0_4:=A0_.mk hr0_4
 have HC0_4:=A0_.mk hc0_4
 clear hr0_4 hc0_4
 have HR0_5:=A0_.mk hr0_5
 have HC0_5:=A0_.mk hc0_5
 clear hr0_5 hc0_5
 have HR0_6:=A0_.mk hr0_6
 have HC0_6:=A0_.mk hc0_6
 clear hr0_6 hc0_6
 have HR0_7:=A0_.mk hr0_7
 have HC0_7:=A0_.mk hc0_7
 clear hr0_7 hc0_7
 have HR0_8:=A0_.mk hr0_8
 have HC0_8:=A0_.mk hc0_8
 clear hr0_8 hc0_8
 have HR0_9:=A0_.mk hr0_9
 have HC0_9:=A0_.mk hc0_9
 clear hr0_9 hc0_9
 have HR0_10:=A0_.mk hr0_10
 have HC0_10:=A0_.mk hc0_10
 clear hr0_10 hc0_10
 have HB:=A0_.mk (Below.refl w.heap.size w)
 have H : (if a1 = 105 then (some (l0_1.length : Int)) else (if a1 = 108 then (some (l0_2.length : Int)) else (if a1 = 111 then (some (l0_3.length : Int)) else (if a1 = 98 then (some (l0_4.length : Int)) else (if a1 = 99 then (some (l0_5.length : Int)) else (if a1 = 106 then (some (l0_6.length : Int)) else (if a1 = 102 then (some (l0_7.length : Int)) else (some (-1))))))))) = some r:=h
 clear h
 by_cases c3 : a1 = 105
 ·rw [if_pos c3] at H
  have c3b0 : (a1 == 105) = true:=beq_iff_eq.mpr c3
  have c3b1 : (a1 != 105) = false:=bne_eq_false_iff_eq.mpr c3
  clear c3
  obtain rfl:=Option.some.inj H
  go_enter Tryz.func113,Tryz.ntmps113
  go_wp2_with (first|((with_reducible refine gate_dst (N:=2) rfl ?_);refine box_event ?hg (N:=2) ?hd (cs:=#[.int .i64 a0_0,.slice A0_1 l0_1.length c0_1,.slice A0_2 l0_2.length c0_2,.slice A0_3 l0_3.length c0_3,.slice A0_4 l0_4.length c0_4,.slice A0_5 l0_5.length c0_5,.slice A0_6 l0_6.length c0_6,.slice A0_7 l0_7.length c0_7,.slice A0_8 l0_8.length c0_8,.slice A0_9 l0_9.length c0_9,.slice A0_10 l0_10.length c0_10]) (t:=29) ?hr ?_;(case hd => rfl);(case hg => rfl);(case hr => first|(go_simp;done)|(go_simp;rfl));intro gb102 hg w4 hbox hb;have n0_:=A0_.mk (below_step (by repeat (first|(with_reducible first|exact HB.out|apply eA_|apply eN_|apply eD_)|exact HB.out)) hb);have n1_:=A0_.mk (hbox);have n2_:=A0_.mk ((by rw [hg];exact (below_size (by repeat (first|(with_reducible first|exact HB.out|apply eA_|apply eN_|apply eD_)|exact HB.out))) : w.heap.size ≤ gb102));have n3_:=A0_.mk ((by rw [hg];exact (below_size (by repeat (first|(with_reducible first|exact HB.out|apply eA_|apply eN_|apply eD_)|exact HB.out))) : w.heap.size ≤ gb102));clear HB;have HB:=n0_;have BK102:=n1_;have GW102:=n2_;have GE102:=n3_;clear n0_ n1_ n2_ n3_;clear hb hbox hg;have hcz5_0 : w4.cell? ⟨gb102,0,none⟩ = some (.int .i64 a0_0):=(bC_ BK102.out 0).trans rfl;have hcz5_1 : w4.cell? ⟨gb102,1,none⟩ = some (.slice A0_1 l0_1.length c0_1):=(bC_ BK102.out 1).trans rfl;have hcz5_2 : w4.cell? ⟨gb102,2,none⟩ = some (.slice A0_2 l0_2.length c0_2):=(bC_ BK102.out 2).trans rfl;have hcz5_3 : w4.cell? ⟨gb102,3,none⟩ = some (.slice A0_3 l0_3.length c0_3):=(bC_ BK102.out 3).trans rfl;have hcz5_4 : w4.cell? ⟨gb102,4,none⟩ = some (.slice A0_4 l0_4.length c0_4):=(bC_ BK102.out 4).trans rfl;have hcz5_5 : w4.cell? ⟨gb102,5,none⟩ = some (.slice A0_5 l0_5.length c0_5):=(bC_ BK102.out 5).trans rfl;have hcz5_6 : w4.cell? ⟨gb102,6,none⟩ = some (.slice A0_6 l0_6.length c0_6):=(bC_ BK102.out 6).trans rfl;have hcz5_7 : w4.cell? ⟨gb102,7,none⟩ = some (.slice A0_7 l0_7.length c0_7):=(bC_ BK102.out 7).trans rfl;have hcz5_8 : w4.cell? ⟨gb102,8,none⟩ = some (.slice A0_8 l0_8.length c0_8):=(bC_ BK102.out 8).trans rfl;have hcz5_9 : w4.cell? ⟨gb102,9,none⟩ = some (.slice A0_9 l0_9.length c0_9):=(bC_ BK102.out 9).trans rfl;have hcz5_10 : w4.cell? ⟨gb102,10,none⟩ = some (.slice A0_10 l0_10.length c0_10):=(bC_ BK102.out 10).trans rfl;have hfz5_0:=bF_ BK102.out 0;have hfz5_1:=bF_ BK102.out 1;have hfz5_2:=bF_ BK102.out 2;have hfz5_3:=bF_ BK102.out 3;have hfz5_4:=bF_ BK102.out 4;have hfz5_5:=bF_ BK102.out 5;have hfz5_6:=bF_ BK102.out 6;have hfz5_7:=bF_ BK102.out 7;have hfz5_8:=bF_ BK102.out 8;have hfz5_9:=bF_ BK102.out 9;have hfz5_10:=bF_ BK102.out 10))
  go_ret
  exact ⟨by first|rfl|(simp [errW_none,errW_some] <;> rfl)|(simp [*,errW_none,errW_some] <;> rfl),by repeat (first|(with_reducible first|exact HB.out|apply eA_|apply eN_|apply eD_|refine eS_ ?_ GE102.out)|exact HB.out)⟩
 ·rw [if_neg c3] at H
  have c3b0 : (a1 == 105) = false:=beq_eq_false_iff_ne.mpr c3
  have c3b1 : (a1 != 105) = true:=bne_iff_ne.mpr c3
  by_cases c6 : a1 = 108
  ·rw [if_pos c6] at H
   have c6b0 : (a1 == 108) = true:=beq_iff_eq.mpr c6
   have c6b1 : (a1 != 108) = false:=bne_eq_false_iff_eq.mpr c6
   clear c6
   obtain rfl:=Option.some.inj H
   go_enter Tryz.func113,Tryz.ntmps113
   go_wp2_with (first|((with_reducible refine gate_dst (N:=2) rfl ?_);refine box_event ?hg (N:=2) ?hd (cs:=#[.int .i64 a0_0,.slice A0_1 l0_1.length c0_1,.slice A0_2 l0_2.length c0_2,.slice A0_3 l0_3.length c0_3,.slice A0_4 l0_4.length c0_4,.slice A0_5 l0_5.length c0_5,.slice A0_6 l0_6.length c0_6,.slice A0_7 l0_7.length c0_7,.slice A0_8 l0_8.length c0_8,.slice A0_9 l0_9.length c0_9,.slice A0_10 l0_10.length c0_10]) (t:=29) ?hr ?_;(case hd => rfl);(case hg => rfl);(case hr => first|(go_simp;done)|(go_simp;rfl));intro gb102 hg w7 hbox hb;have n0_:=A0_.mk (below_step (by repeat (first|(with_reducible first|exact HB.out|apply eA_|apply eN_|apply eD_)|exact HB.out)) hb);have n1_:=A0_.mk (hbox);have n2_:=A0_.mk ((by rw [hg];exact (below_size (by repeat (first|(with_reducible first|exact HB.out|apply eA_|apply eN_|apply eD_)|exact HB.out))) : w.heap.size ≤ gb102));have n3_:=A0_.mk ((by rw [hg];exact (below_size (by repeat (first|(with_reducible first|exact HB.out|apply eA_|apply eN_|apply eD_)|exact HB.out))) : w.heap.size ≤ gb102));clear HB;have HB:=n0_;have BK102:=n1_;have GW102:=n2_;have GE102:=n3_;clear n0_ n1_ n2_ n3_;clear hb hbox hg;have hcz8_0 : w7.cell? ⟨gb102,0,none⟩ = some (.int .i64 a0_0):=(bC_ BK102.out 0).trans rfl;have hcz8_1 : w7.cell? ⟨gb102,1,none⟩ = some (.slice A0_1 l0_1.length c0_1):=(bC_ BK102.out 1).trans rfl;have hcz8_2 : w7.cell? ⟨gb102,2,none⟩ = some (.slice A0_2 l0_2.length c0_2):=(bC_ BK102.out 2).trans rfl;have hcz8_3 : w7.cell? ⟨gb102,3,none⟩ = some (.slice A0_3 l0_3.length c0_3):=(bC_ BK102.out 3).trans rfl;have hcz8_4 : w7.cell? ⟨gb102,4,none⟩ = some (.slice A0_4 l0_4.length c0_4):=(bC_ BK102.out 4).trans rfl;have hcz8_5 : w7.cell? ⟨gb102,5,none⟩ = some (.slice A0_5 l0_5.length c0_5):=(bC_ BK102.out 5).trans rfl;have hcz8_6 : w7.cell? ⟨gb102,6,none⟩ = some (.slice A0_6 l0_6.length c0_6):=(bC_ BK102.out 6).trans rfl;have hcz8_7 : w7.cell? ⟨gb102,7,none⟩ = some (.slice A0_7 l0_7.length c0_7):=(bC_ BK102.out 7).trans rfl;have hcz8_8 : w7.cell? ⟨gb102,8,none⟩ = some (.slice A0_8 l0_8.length c0_8):=(bC_ BK102.out 8).trans rfl;have hcz8_9 : w7.cell? ⟨gb102,9,none⟩ = some (.slice A0_9 l0_9.length c0_9):=(bC_ BK102.out 9).trans rfl;have hcz8_10 : w7.cell? ⟨gb102,10,none⟩ = some (.slice A0_10 l0_10.length c0_10):=(bC_ BK102.out 10).trans rfl;have hfz8_0:=bF_ BK102.out 0;have hfz8_1:=bF_ BK102.out 1;have hfz8_2:=bF_ BK102.out 2;have hfz8_3:=bF_ BK102.out 3;have hfz8_4:=bF_ BK102.out 4;have hfz8_5:=bF_ BK102.out 5;have hfz8_6:=bF_ BK102.out 6;have hfz8_7:=bF_ BK102.out 7;have hfz8_8:=bF_ BK102.out 8;have hfz8_9:=bF_ BK102.out 9;have hfz8_10:=bF_ BK102.out 10))
   go_ret
   exact ⟨by first|rfl|(simp [errW_none,errW_some] <;> rfl)|(simp [*,errW_none,errW_some] <;> rfl),by repeat (first|(with_reducible first|exact HB.out|apply eA_|apply eN_|apply eD_|refine eS_ ?_ GE102.out)|exact HB.out)⟩
  ·rw [if_neg c6] at H
   have c6b0 : (a1 == 108) = false:=beq_eq_false_iff_ne.mpr c6
   have c6b1 : (a1 != 108) = true:=bne_iff_ne.mpr c6
   by_cases c9 : a1 = 111
   ·rw [if_pos c9] at H
    have c9b0 : (a1 == 111) = true:=beq_iff_eq.mpr c9
    have c9b1 : (a1 != 111) = false:=bne_eq_false_iff_eq.mpr c9
    clear c9
    obtain rfl:=Option.some.inj H
    go_enter Tryz.func113,Tryz.ntmps113
    go_wp2_with (first|((with_reducible refine gate_dst (N:=2) rfl ?_);refine box_event ?hg (N:=2) ?hd (cs:=#[.int .i64 a0_0,.slice A0_1 l0_1.length c0_1,.slice A0_2 l0_2.length c0_2,.slice A0_3 l0_3.length c0_3,.slice A0_4 l0_4.length c0_4,.slice A0_5 l0_5.length c0_5,.slice A0_6 l0_6.length c0_6,.slice A0_7 l0_7.length c0_7,.slice A0_8 l0_8.length c0_8,.slice A0_9 l0_9.length c0_9,.slice A0_10 l0_10.length c0_10]) (t:=29) ?hr ?_;(case hd => rfl);(case hg => rfl);(case hr => first|(go_simp;done)|(go_simp;rfl));intro gb102 hg w10 hbox hb;have n0_:=A0_.mk (below_step (by repeat (first|(with_reducible first|exact HB.out|apply eA_|apply eN_|apply eD_)|exact HB.out)) hb);have n1_:=A0_.mk (hbox);have n2_:=A0_.mk ((by rw [hg];exact (below_size (by repeat (first|(with_reducible first|exact HB.out|apply eA_|apply eN_|apply eD_)|exact HB.out))) : w.heap.size ≤ gb102));have n3_:=A0_.mk ((by rw [hg];exact (below_size (by repeat (first|(with_reducible first|exact HB.out|apply eA_|apply eN_|apply eD_)|exact HB.out))) : w.heap.size ≤ gb102));clear HB;have HB:=n0_;have BK102:=n1_;have GW102:=n2_;have GE102:=n3_;clear n0_ n1_ n2_ n3_;clear hb hbox hg;have hcz11_0 : w10.cell? ⟨gb102,0,none⟩ = some (.int .i64 a0_0):=(bC_ BK102.out 0).trans rfl;have hcz11_1 : w10.cell? ⟨gb102,1,none⟩ = some (.slice A0_1 l0_1.length c0_1):=(bC_ BK102.out 1).trans rfl;have hcz11_2 : w10.cell? ⟨gb102,2,none⟩ = some (.slice A0_2 l0_2.length c0_2):=(bC_ BK102.out 2).trans rfl;have hcz11_3 : w10.cell? ⟨gb102,3,none⟩ = some (.slice A0_3 l0_3.length c0_3):=(bC_ BK102.out 3).trans rfl;have hcz11_4 : w10.cell? ⟨gb102,4,none⟩ = some (.slice A0_4 l0_4.length c0_4):=(bC_ BK102.out 4).trans rfl;have hcz11_5 : w10.cell? ⟨gb102,5,none⟩ = some (.slice A0_5 l0_5.length c0_5):=(bC_ BK102.out 5).trans rfl;have hcz11_6 : w10.cell? ⟨gb102,6,none⟩ = some (.slice A0_6 l0_6.length c0_6):=(bC_ BK102.out 6).trans rfl;have hcz11_7 : w10.cell? ⟨gb102,7,none⟩ = some (.slice A0_7 l0_7.length c0_7):=(bC_ BK102.out 7).trans rfl;have hcz11_8 : w10.cell? ⟨gb102,8,none⟩ = some (.slice A0_8 l0_8.length c0_8):=(bC_ BK102.out 8).trans rfl;have hcz11_9 : w10.cell? ⟨gb102,9,none⟩ = some (.slice A0_9 l0_9.length c0_9):=(bC_ BK102.out 9).trans rfl;have hcz11_10 : w10.cell? ⟨gb102,10,none⟩ = some (.slice A0_10 l0_10.length c0_10):=(bC_ BK102.out 10).trans rfl;have hfz11_0:=bF_ BK102.out 0;have hfz11_1:=bF_ BK102.out 1;have hfz11_2:=bF_ BK102.out 2;have hfz11_3:=bF_ BK102.out 3;have hfz11_4:=bF_ BK102.out 4;have hfz11_5:=bF_ BK102.out 5;have hfz11_6:=bF_ BK102.out 6;have hfz11_7:=bF_ BK102.out 7;have hfz11_8:=bF_ BK102.out 8;have hfz11_9:=bF_ BK102.out 9;have hfz11_10:=bF_ BK102.out 10))
    go_ret
    exact ⟨by first|rfl|(simp [errW_none,errW_some] <;> rfl)|(simp [*,errW_none,errW_some] <;> rfl),by repeat (first|(with_reducible first|exact HB.out|apply eA_|apply eN_|apply eD_|refine eS_ ?_ GE102.out)|exact HB.out)⟩
   ·rw [if_neg c9] at H
    have c9b0 : (a1 == 111) = false:=beq_eq_false_iff_ne.mpr c9
    have c9b1 : (a1 != 111) = true:=bne_iff_ne.mpr c9
    by_cases c12 : a1 = 98
    ·rw [if_pos c12] at H
     have c12b0 : (a1 == 98) = true:=beq_iff_eq.mpr c12
     have c12b1 : (a1 != 98) = false:=bne_eq_false_iff_eq.mpr c12
     clear c12
     obtain rfl:=Option.some.inj H
     go_enter Tryz.func113,Tryz.ntmps113
     go_wp2_with (first|((with_reducible refine gate_dst (N:=2) rfl ?_);refine box_event ?hg (N:=2) ?hd (cs:=#[.int .i64 a0_0,.slice A0_1 l0_1.length c0_1,.slice A0_2 l0_2.length c0_2,.slice A0_3 l0_3.length c0_3,.slice A0_4 l0_4.length c0_4,.slice A0_5 l0_5.length c0_5,.slice A0_6 l0_6.length c0_6,.slice A0_7 l0_7.length c0_7,.slice A0_8 l0_8.length c0_8,.slice A0_9 l0_9.length c0_9,.slice A0_10 l0_10.length c0_10]) (t:=29) ?hr ?_;(case hd => rfl);(case hg => rfl);(case hr => first|(go_simp;done)|(go_simp;rfl));intro gb102 hg w13 hbox hb;have n0_:=A0_.mk (below_step (by repeat (first|(with_reducible first|exact HB.out|apply eA_|apply eN_|apply eD_)|exact HB.out)) hb);have n1_:=A0_.mk (hbox);have n2_:=A0_.mk ((by rw [hg];exact (below_size (by repeat (first|(with_reducible first|exact HB.out|apply eA_|apply eN_|apply eD_)|exact HB.out))) : w.heap.size ≤ gb102));have n3_:=A0_.mk ((by rw [hg];exact (below_size (by repeat (first|(with_reducible first|exact HB.out|apply eA_|apply eN_|apply eD_)|exact HB.out))) : w.heap.size ≤ gb102));clear HB;have HB:=n0_;have BK102:=n1_;have GW102:=n2_;have GE102:=n3_;clear n0_ n1_ n2_ n3_;clear hb hbox hg;have hcz14_0 : w13.cell? ⟨gb102,0,none⟩ = some (.int .i64 a0_0):=(bC_ BK102.out 0).trans rfl;have hcz14_1 : w13.cell? ⟨gb102,1,none⟩ = some (.slice A0_1 l0_1.length c0_1):=(bC_ BK102.out 1).trans rfl;have hcz14_2 : w13.cell? ⟨gb102,2,none⟩ = some (.slice A0_2 l0_2.length c0_2):=(bC_ BK102.out 2).trans rfl;have hcz14_3 : w13.cell? ⟨gb102,3,none⟩ = some (.slice A0_3 l0_3.length c0_3):=(bC_ BK102.out 3).trans rfl;have hcz14_4 : w13.cell? ⟨gb102,4,none⟩ = some (.slice A0_4 l0_4.length c0_4):=(bC_ BK102.out 4).trans rfl;have hcz14_5 : w13.cell? ⟨gb102,5,none⟩ = some (.slice A0_5 l0_5.length c0_5):=(bC_ BK102.out 5).trans rfl;have hcz14_6 : w13.cell? ⟨gb102,6,none⟩ = some (.slice A0_6 l0_6.length c0_6):=(bC_ BK102.out 6).trans rfl;have hcz14_7 : w13.cell? ⟨gb102,7,none⟩ = some (.slice A0_7 l0_7.length c0_7):=(bC_ BK102.out 7).trans rfl;have hcz14_8 : w13.cell? ⟨gb102,8,none⟩ = some (.slice A0_8 l0_8.length c0_8):=(bC_ BK102.out 8).trans rfl;have hcz14_9 : w13.cell? ⟨gb102,9,none⟩ = some (.slice A0_9 l0_9.length c0_9):=(bC_ BK102.out 9).trans rfl;have hcz14_10 : w13.cell? ⟨gb102,10,none⟩ = some (.slice A0_10 l0_10.length c0_10):=(bC_ BK102.out 10).trans rfl;have hfz14_0:=bF_ BK102.out 0;have hfz14_1:=bF_ BK102.out 1;have hfz14_2:=bF_ BK102.out 2;have hfz14_3:=bF_ BK102.out 3;have hfz14_4:=bF_ BK102.out 4;have hfz14_5:=bF_ BK102.out 5;have hfz14_6:=bF_ BK102.out 6;have hfz14_7:=bF_ BK102.out 7;have hfz14_8:=bF_ BK102.out 8;have hfz14_9:=bF_ BK102.out 9;have hfz14_10:=bF_ BK102.out 10))
     go_ret
     exact ⟨by first|rfl|(simp [errW_none,errW_some] <;> rfl)|(simp [*,errW_none,errW_some] <;> rfl),by repeat (first|(with_reducible first|exact HB.out|apply eA_|apply eN_|apply eD_|refine eS_ ?_ GE102.out)|exact HB.out)⟩
    ·rw [if_neg c12] at H
     have c12b0 : (a1 == 98) = false:=beq_eq_false_iff_ne.mpr c12
     have c12b1 : (a1 != 98) = true:=bne_iff_ne.mpr c12
     by_cases c15 : a1 = 99
     ·rw [if_pos c15] at H
      have c15b0 : (a1 == 99) = true:=beq_iff_eq.mpr c15
      have c15b1 : (a1 != 99) = false:=bne_eq_false_iff_eq.mpr c15
      clear c15
      obtain rfl:=Option.some.inj H
      go_enter Tryz.func113,Tryz.ntmps113
      go_wp2_with (first|((with_reducible refine gate_dst (N:=2) rfl ?_);refine box_event ?hg (N:=2) ?hd (cs:=#[.int .i64 a0_0,.slice A0_1 l0_1.length c0_1,.slice A0_2 l0_2.length c0_2,.slice A0_3 l0_3.length c0_3,.slice A0_4 l0_4.length c0_4,.slice A0_5 l0_5.length c0_5,.slice A0_6 l0_6.length c0_6,.slice A0_7 l0_7.length c0_7,.slice A0_8 l0_8.length c0_8,.slice A0_9 l0_9.length c0_9,.slice A0_10 l0_10.length c0_10]) (t:=29) ?hr ?_;(case hd => rfl);(case hg => rfl);(case hr => first|(go_simp;done)|(go_simp;rfl));intro gb102 hg w16 hbox hb;have n0_:=A0_.mk (below_step (by repeat (first|(with_reducible first|exact HB.out|apply eA_|apply eN_|apply eD_)|exact HB.out)) hb);have n1_:=A0_.mk (hbox);have n2_:=A0_.mk ((by rw [hg];exact (below_size (by repeat (first|(with_reducible first|exact HB.out|apply eA_|apply eN_|apply eD_)|exact HB.out))) : w.heap.size ≤ gb102));have n3_:=A0_.mk ((by rw [hg];exact (below_size (by repeat (first|(with_reducible first|exact HB.out|apply eA_|apply eN_|apply eD_)|exact HB.out))) : w.heap.size ≤ gb102));clear HB;have HB:=n0_;have BK102:=n1_;have GW102:=n2_;have GE102:=n3_;clear n0_ n1_ n2_ n3_;clear hb hbox hg;have hcz17_0 : w16.cell? ⟨gb102,0,none⟩ = some (.int .i64 a0_0):=(bC_ BK102.out 0).trans rfl;have hcz17_1 : w16.cell? ⟨gb102,1,none⟩ = some (.slice A0_1 l0_1.length c0_1):=(bC_ BK102.out 1).trans rfl;have hcz17_2 : w16.cell? ⟨gb102,2,none⟩ = some (.slice A0_2 l0_2.length c0_2):=(bC_ BK102.out 2).trans rfl;have hcz17_3 : w16.cell? ⟨gb102,3,none⟩ = some (.slice A0_3 l0_3.length c0_3):=(bC_ BK102.out 3).trans rfl;have hcz17_4 : w16.cell? ⟨gb102,4,none⟩ = some (.slice A0_4 l0_4.length c0_4):=(bC_ BK102.out 4).trans rfl;have hcz17_5 : w16.cell? ⟨gb102,5,none⟩ = some (.slice A0_5 l0_5.length c0_5):=(bC_ BK102.out 5).trans rfl;have hcz17_6 : w16.cell? ⟨gb102,6,none⟩ = some (.slice A0_6 l0_6.length c0_6):=(bC_ BK102.out 6).trans rfl;have hcz17_7 : w16.cell? ⟨gb102,7,none⟩ = some (.slice A0_7 l0_7.length c0_7):=(bC_ BK102.out 7).trans rfl;have hcz17_8 : w16.cell? ⟨gb102,8,none⟩ = some (.slice A0_8 l0_8.length c0_8):=(bC_ BK102.out 8).trans rfl;have hcz17_9 : w16.cell? ⟨gb102,9,none⟩ = some (.slice A0_9 l0_9.length c0_9):=(bC_ BK102.out 9).trans rfl;have hcz17_10 : w16.cell? ⟨gb102,10,none⟩ = some (.slice A0_10 l0_10.length c0_10):=(bC_ BK102.out 10).trans rfl;have hfz17_0:=bF_ BK102.out 0;have hfz17_1:=bF_ BK102.out 1;have hfz17_2:=bF_ BK102.out 2;have hfz17_3:=bF_ BK102.out 3;have hfz17_4:=bF_ BK102.out 4;have hfz17_5:=bF_ BK102.out 5;have hfz17_6:=bF_ BK102.out 6;have hfz17_7:=bF_ BK102.out 7;have hfz17_8:=bF_ BK102.out 8;have hfz17_9:=bF_ BK102.out 9;have hfz17_10:=bF_ BK102.out 10))
      go_ret
      exact ⟨by first|rfl|(simp [errW_none,errW_some] <;> rfl)|(simp [*,errW_none,errW_some] <;> rfl),by repeat (first|(with_reducible first|exact HB.out|apply eA_|apply eN_|apply eD_|refine eS_ ?_ GE102.out)|exact HB.out)⟩
     ·rw [if_neg c15] at H
      have c15b0 : (a1 == 99) = false:=beq_eq_false_iff_ne.mpr c15
      have c15b1 : (a1 != 99) = true:=bne_iff_ne.mpr c15
      by_cases c18 : a1 = 106
      ·rw [if_pos c18] at H
       have c18b0 : (a1 == 106) = true:=beq_iff_eq.mpr c18
       have c18b1 : (a1 != 106) = false:=bne_eq_false_iff_eq.mpr c18
       clear c18
       obtain rfl:=Option.some.inj H
       go_enter Tryz.func113,Tryz.ntmps113
       go_wp2_with (first|((with_reducible refine gate_dst (N:=2) rfl ?_);refine box_event ?hg (N:=2) ?hd (cs:=#[.int .i64 a0_0,.slice A0_1 l0_1.length c0_1,.slice A0_2 l0_2.length c0_2,.slice A0_3 l0_3.length c0_3,.slice A0_4 l0_4.length c0_4,.slice A0_5 l0_5.length c0_5,.slice A0_6 l0_6.length c0_6,.slice A0_7 l0_7.length c0_7,.slice A0_8 l0_8.length c0_8,.slice A0_9 l0_9.length c0_9,.slice A0_10 l0_10.length c0_10]) (t:=29) ?hr ?_;(case hd => rfl);(case hg => rfl);(case hr => first|(go_simp;done)|(go_simp;rfl));intro gb102 hg w19 hbox hb;have n0_:=A0_.mk (below_step (by repeat (first|(with_reducible first|exact HB.out|apply eA_|apply eN_|apply eD_)|exact HB.out)) hb);have n1_:=A0_.mk (hbox);have n2_:=A0_.mk ((by rw [hg];exact (below_size (by repeat (first|(with_reducible first|exact HB.out|apply eA_|apply eN_|apply eD_)|exact HB.out))) : w.heap.size ≤ gb102));have n3_:=A0_.mk ((by rw [hg];exact (below_size (by repeat (first|(with_reducible first|exact HB.out|apply eA_|apply eN_|apply eD_)|exact HB.out))) : w.heap.size ≤ gb102));clear HB;have HB:=n0_;have BK102:=n1_;have GW102:=n2_;have GE102:=n3_;clear n0_ n1_ n2_ n3_;clear hb hbox hg;have hcz20_0 : w19.cell? ⟨gb102,0,none⟩ = some (.int .i64 a0_0):=(bC_ BK102.out 0).trans rfl;have hcz20_1 : w19.cell? ⟨gb102,1,none⟩ = some (.slice A0_1 l0_1.length c0_1):=(bC_ BK102.out 1).trans rfl;have hcz20_2 : w19.cell? ⟨gb102,2,none⟩ = some (.slice A0_2 l0_2.length c0_2):=(bC_ BK102.out 2).trans rfl;have hcz20_3 : w19.cell? ⟨gb102,3,none⟩ = some (.slice A0_3 l0_3.length c0_3):=(bC_ BK102.out 3).trans rfl;have hcz20_4 : w19.cell? ⟨gb102,4,none⟩ = some (.slice A0_4 l0_4.length c0_4):=(bC_ BK102.out 4).trans rfl;have hcz20_5 : w19.cell? ⟨gb102,5,none⟩ = some (.slice A0_5 l0_5.length c0_5):=(bC_ BK102.out 5).trans rfl;have hcz20_6 : w19.cell? ⟨gb102,6,none⟩ = some (.slice A0_6 l0_6.length c0_6):=(bC_ BK102.out 6).trans rfl;have hcz20_7 : w19.cell? ⟨gb102,7,none⟩ = some (.slice A0_7 l0_7.length c0_7):=(bC_ BK102.out 7).trans rfl;have hcz20_8 : w19.cell? ⟨gb102,8,none⟩ = some (.slice A0_8 l0_8.length c0_8):=(bC_ BK102.out 8).trans rfl;have hcz20_9 : w19.cell? ⟨gb102,9,none⟩ = some (.slice A0_9 l0_9.length c0_9):=(bC_ BK102.out 9).trans rfl;have hcz20_10 : w19.cell? ⟨gb102,10,none⟩ = some (.slice A0_10 l0_10.length c0_10):=(bC_ BK102.out 10).trans rfl;have hfz20_0:=bF_ BK102.out 0;have hfz20_1:=bF_ BK102.out 1;have hfz20_2:=bF_ BK102.out 2;have hfz20_3:=bF_ BK102.out 3;have hfz20_4:=bF_ BK102.out 4;have hfz20_5:=bF_ BK102.out 5;have hfz20_6:=bF_ BK102.out 6;have hfz20_7:=bF_ BK102.out 7;have hfz20_8:=bF_ BK102.out 8;have hfz20_9:=bF_ BK102.out 9;have hfz20_10:=bF_ BK102.out 10))
       go_ret
       exact ⟨by first|rfl|(simp [errW_none,errW_some] <;> rfl)|(simp [*,errW_none,errW_some] <;> rfl),by repeat (first|(with_reducible first|exact HB.out|apply eA_|apply eN_|apply eD_|refine eS_ ?_ GE102.out)|exact HB.out)⟩
      ·rw [if_neg c18] at H
       have c18b0 : (a1 == 106) = false:=beq_eq_false_iff_ne.mpr c18
       have c18b1 : (a1 != 106) = true:=bne_iff_ne.mpr c18
       by_cases c21 : a1 = 102
       ·rw [if_pos c21] at H
        have c21b0 : (a1 == 102) = true:=beq_iff_eq.mpr c21
        have c21b1 : (a1 != 102) = false:=bne_eq_false_iff_eq.mpr c21
        clear c21
        obtain rfl:=Option.some.inj H
        go_enter Tryz.func113,Tryz.ntmps113
        go_wp2_with (first|((with_reducible refine gate_dst (N:=2) rfl ?_);refine box_event ?hg (N:=2) ?hd (cs:=#[.int .i64 a0_0,.slice A0_1 l0_1.length c0_1,.slice A0_2 l0_2.length c0_2,.slice A0_3 l0_3.length c0_3,.slice A0_4 l0_4.length c0_4,.slice A0_5 l0_5.length c0_5,.slice A0_6 l0_6.length c0_6,.slice A0_7 l0_7.length c0_7,.slice A0_8 l0_8.length c0_8,.slice A0_9 l0_9.length c0_9,.slice A0_10 l0_10.length c0_10]) (t:=29) ?hr ?_;(case hd => rfl);(case hg => rfl);(case hr => first|(go_simp;done)|(go_simp;rfl));intro gb102 hg w22 hbox hb;have n0_:=A0_.mk (below_step (by repeat (first|(with_reducible first|exact HB.out|apply eA_|apply eN_|apply eD_)|exact HB.out)) hb);have n1_:=A0_.mk (hbox);have n2_:=A0_.mk ((by rw [hg];exact (below_size (by repeat (first|(with_reducible first|exact HB.out|apply eA_|apply eN_|apply eD_)|exact HB.out))) : w.heap.size ≤ gb102));have n3_:=A0_.mk ((by rw [hg];exact (below_size (by repeat (first|(with_reducible first|exact HB.out|apply eA_|apply eN_|apply eD_)|exact HB.out))) : w.heap.size ≤ gb102));clear HB;have HB:=n0_;have BK102:=n1_;have GW102:=n2_;have GE102:=n3_;clear n0_ n1_ n2_ n3_;clear hb hbox hg;have hcz23_0 : w22.cell? ⟨gb102,0,none⟩ = some (.int .i64 a0_0):=(bC_ BK102.out 0).trans rfl;have hcz23_1 : w22.cell? ⟨gb102,1,none⟩ = some (.slice A0_1 l0_1.length c0_1):=(bC_ BK102.out 1).trans rfl;have hcz23_2 : w22.cell? ⟨gb102,2,none⟩ = some (.slice A0_2 l0_2.length c0_2):=(bC_ BK102.out 2).trans rfl;have hcz23_3 : w22.cell? ⟨gb102,3,none⟩ = some (.slice A0_3 l0_3.length c0_3):=(bC_ BK102.out 3).trans rfl;have hcz23_4 : w22.cell? ⟨gb102,4,none⟩ = some (.slice A0_4 l0_4.length c0_4):=(bC_ BK102.out 4).trans rfl;have hcz23_5 : w22.cell? ⟨gb102,5,none⟩ = some (.slice A0_5 l0_5.length c0_5):=(bC_ BK102.out 5).trans rfl;have hcz23_6 : w22.cell? ⟨gb102,6,none⟩ = some (.slice A0_6 l0_6.length c0_6):=(bC_ BK102.out 6).trans rfl;have hcz23_7 : w22.cell? ⟨gb102,7,none⟩ = some (.slice A0_7 l0_7.length c0_7):=(bC_ BK102.out 7).trans rfl;have hcz23_8 : w22.cell? ⟨gb102,8,none⟩ = some (.slice A0_8 l0_8.length c0_8):=(bC_ BK102.out 8).trans rfl;have hcz23_9 : w22.cell? ⟨gb102,9,none⟩ = some (.slice A0_9 l0_9.length c0_9):=(bC_ BK102.out 9).trans rfl;have hcz23_10 : w22.cell? ⟨gb102,10,none⟩ = some (.slice A0_10 l0_10.length c0_10):=(bC_ BK102.out 10).trans rfl;have hfz23_0:=bF_ BK102.out 0;have hfz23_1:=bF_ BK102.out 1;have hfz23_2:=bF_ BK102.out 2;have hfz23_3:=bF_ BK102.out 3;have hfz23_4:=bF_ BK102.out 4;have hfz23_5:=bF_ BK102.out 5;have hfz23_6:=bF_ BK102.out 6;have hfz23_7:=bF_ BK102.out 7;have hfz23_8:=bF_ BK102.out 8;have hfz23_9:=bF_ BK102.out 9;have hfz23_10:=bF_ BK102.out 10))
        go_ret
        exact ⟨by first|rfl|(simp [errW_none,errW_some] <;> rfl)|(simp [*,errW_none,errW_some] <;> rfl),by repeat (first|(with_reducible first|exact HB.out|apply eA_|apply eN_|apply eD_|refine eS_ ?_ GE102.out)|exact HB.out)⟩
       ·rw [if_neg c21] at H
        have c21b0 : (a1 == 102) = false:=beq_eq_false_iff_ne.mpr c21
        have c21b1 : (a1 != 102) = true:=bne_iff_ne.mpr c21
        obtain rfl:=Option.some.inj H
        go_enter Tryz.func113,Tryz.ntmps113
        go_wp2_with (first|((with_reducible refine gate_dst (N:=2) rfl ?_);refine box_event ?hg (N:=2) ?hd (cs:=#[.int .i64 a0_0,.slice A0_1 l0_1.length c0_1,.slice A0_2 l0_2.length c0_2,.slice A0_3 l0_3.length c0_3,.slice A0_4 l0_4.length c0_4,.slice A0_5 l0_5.length c0_5,.slice A0_6 l0_6.length c0_6,.slice A0_7 l0_7.length c0_7,.slice A0_8 l0_8.length c0_8,.slice A0_9 l0_9.length c0_9,.slice A0_10 l0_10.length c0_10]) (t:=29) ?hr ?_;(case hd => rfl);(case hg => rfl);(case hr => first|(go_simp;done)|(go_simp;rfl));intro gb102 hg w24 hbox hb;have n0_:=A0_.mk (below_step (by repeat (first|(with_reducible first|exact HB.out|apply eA_|apply eN_|apply eD_)|exact HB.out)) hb);have n1_:=A0_.mk (hbox);have n2_:=A0_.mk ((by rw [hg];exact (below_size (by repeat (first|(with_reducible first|exact HB.out|apply eA_|apply eN_|apply eD_)|exact HB.out))) : w.heap.size ≤ gb102));have n3_:=A0_.mk ((by rw [hg];exact (below_size (by repeat (first|(with_reducible first|exact HB.out|apply eA_|apply eN_|apply eD_)|exact HB.out))) : w.heap.size ≤ gb102));clear HB;have HB:=n0_;have BK102:=n1_;have GW102:=n2_;have GE102:=n3_;clear n0_ n1_ n2_ n3_;clear hb hbox hg))
        go_ret
        exact ⟨by first|rfl|(simp [errW_none,errW_some] <;> rfl)|(simp [*,errW_none,errW_some] <;> rfl),by repeat (first|(with_reducible first|exact HB.out|apply eA_|apply eN_|apply eD_|refine eS_ ?_ GE102.out)|exact HB.out)⟩
end Go.Proofs.YtdmngdohlobogaaGreatDoor.Asc

