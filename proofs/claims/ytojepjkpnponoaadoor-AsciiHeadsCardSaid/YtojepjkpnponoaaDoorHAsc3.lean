import Derived.Test.YtojepjkpnponoaaDoorHAsc0
import Derived.Test.YtojepjkpnponoaaDoorHGV
namespace Go.Proofs.YtojepjkpnponoaaDoor.Asc
open Go.RowKit Go.Proofs.YtojepjkpnponoaaDoorW.PrintWords Go.Proofs.YtojepjkpnponoaaDoorW.PrintLast Go.Proofs.YtojepjkpnponoaaDoorW.PrintMore
attribute [local go_sem] max2_int min2_int max_two min_two max_three min_three max_four min_four
set_option linter.unusedVariables false
set_option linter.unusedSimpArgs false
def shape_total.l0 : Nat → Int → List (List Int) → Int → Int → Option (Int)
  | 0,_,_,_,_ => none
  | k + 1,x3,x6,x7,x8 => if x8 < x7 then (if 0 ≤ x8 then (if x8 < (x6.length : Int) then (shape_total.l0 k (wrap64 (x3 + ((rd_L2 x6 x8).length : Int))) x6 x7 (wrap64 (x8 + 1))) else (none)) else (none)) else (some x3)
def shape_total.f (k : Nat) (l0 : List (List Int)) : Option (Int):=shape_total.l0 k 0 l0 (l0.length : Int) 0
set_option maxHeartbeats 8000000 in
set_option maxRecDepth 100000 in
theorem shape_total.calls (k : Nat) (A0 : Option Addr) (c0 : Nat) (l0 : List (List Int)) (r : Int) (w : World) (hr0 : Kd.C (Kd.slice 3 (Kd.int .i64)) w A0 l0.length l0) (hc0 : l0.length ≤ c0) (h : shape_total.f k l0 = some r) :
    Calls Tryd.prog 103 #[.slice A0 l0.length c0] w fun e w' => e = .returned (.int .i64 r) ∧ Drawn0 w w':=by
  have HR0:=Aside0.mk hr0
  have HC0:=Aside0.mk hc0
  clear hr0 hc0
  have H : (shape_total.l0 k 0 l0 (l0.length : Int) 0) = some r:=h
  clear h
  have H':=Aside0.mk H
  clear H
  go_enter Tryd.func103,Tryd.ntmps103
  go_wp2
  (try simp only [Act.put,List.setIfInBounds_toArray,List.set_cons_zero,List.set_cons_succ])
  go_loopg [3,8] k (fun kq v3 v8 w' => ∃ (x3_1 : Int) (x8_1 : Int),v3 = .int .i64 x3_1 ∧ v8 = .int .i64 x8_1 ∧ Aside0 (shape_total.l0 kq x3_1 l0 (l0.length : Int) x8_1 = some r) ∧ Aside0 (kq ≤ k) ∧ Drawn0 w w')
  case atStart => exact ⟨(0),(0),(by first|rfl|(simp;done)|(simp [*];done)),(by first|rfl|(simp;done)|(simp [*];done)),H',⟨Nat.le_refl _⟩,by repeat (first|exact Drawn0.refl _|apply Drawn0.step)⟩
  case round =>
    clear H'
    try clear c1
    obtain ⟨x3_1,x8_1,rfl,rfl,HA,HK1,⟨m1,rfl⟩⟩:=hrel
    cases gk with
    | zero => exact absurd HA.out (by simp [shape_total.l0])
    | succ k1 =>
      have H:=HA.out
      clear HA
      simp only [shape_total.l0] at H
      by_cases c2 : x8_1 < (l0.length : Int)
      · rw [if_pos c2] at H
        have c2b0 : decide (x8_1 < (l0.length : Int)) = true:=decide_eq_true c2
        clear c2
        by_cases c3 : 0 ≤ x8_1
        · rw [if_pos c3] at H
          have c3b0 : decide (0 ≤ x8_1) = true:=decide_eq_true c3
          clear c3
          by_cases c4 : x8_1 < (l0.length : Int)
          · rw [if_pos c4] at H
            have c4b0 : decide (x8_1 < (l0.length : Int)) = true:=decide_eq_true c4
            clear c4
            have H':=Aside0.mk H
            clear H
            have p101 : 0 ≤ (x8_1 : Int):=of_decide_eq_true (by first|(with_reducible assumption)|assumption)
            have q101 : x8_1 < (l0.length : Int):=of_decide_eq_true (by first|(with_reducible assumption)|assumption)
            obtain ⟨ad101,A101_0,c101_0,e101,hx101_0,hl101_0,hi101_0⟩:=at_L2 HR0.out x8_1 p101 q101
            cases e101
            have HR101_0:=Aside0.mk hi101_0
            have HC101_0:=Aside0.mk hl101_0
            clear hi101_0 hl101_0
            replace p101:=eq_true p101
            replace q101:=eq_true q101
            go_wp2
            go_roundg k1
            case measure => have:=HK1.out;omega
            case rel => exact ⟨(wrap64 (x3_1 + ((rd_L2 l0 x8_1).length : Int))),(wrap64 (x8_1 + 1)),(by first|rfl|(simp;done)|(simp [*];done)),(by first|rfl|(simp;done)|(simp [*];done)),H',⟨by have:=HK1.out;omega⟩,by repeat (first|exact Drawn0.refl _|apply Drawn0.step)⟩
          · rw [if_neg c4] at H
            exact absurd H (by simp)
        · rw [if_neg c3] at H
          exact absurd H (by simp)
      · rw [if_neg c2] at H
        have c2b0 : decide (x8_1 < (l0.length : Int)) = false:=decide_eq_false c2
        clear c2
        obtain rfl:=Option.some.inj H
        go_wp2
        go_ret
        exact ⟨by first|rfl|(simp;done)|(simp [*];done),by repeat (first|exact Drawn0.refl _|apply Drawn0.step)⟩
def shape_many.f (a0_0 : Int) (l0_1 : List Int) (l0_2 : List (S108)) (l0_3 : List Int) (l0_4 : List Int) (l0_5 : List Int) (l0_6 : List (List Int)) (l0_7 : List Int) (l0_8 : List (S125)) (l0_9 : List (S59)) (l0_10 : List ByteArray) (a1 : Int) : Option (Int):=if a1 = 105 then (some (l0_1.length : Int)) else (if a1 = 108 then (some (l0_2.length : Int)) else (if a1 = 111 then (some (l0_3.length : Int)) else (if a1 = 98 then (some (l0_4.length : Int)) else (if a1 = 99 then (some (l0_5.length : Int)) else (if a1 = 106 then (some (l0_6.length : Int)) else (if a1 = 102 then (some (l0_7.length : Int)) else (some (-1))))))))
set_option maxHeartbeats 8000000 in
set_option maxRecDepth 100000 in
theorem shape_many.calls (a0_0 : Int) (A0_1 : Option Addr) (c0_1 : Nat) (l0_1 : List Int) (A0_2 : Option Addr) (c0_2 : Nat) (l0_2 : List (S108)) (A0_3 : Option Addr) (c0_3 : Nat) (l0_3 : List Int) (A0_4 : Option Addr) (c0_4 : Nat) (l0_4 : List Int) (A0_5 : Option Addr) (c0_5 : Nat) (l0_5 : List Int) (A0_6 : Option Addr) (c0_6 : Nat) (l0_6 : List (List Int)) (A0_7 : Option Addr) (c0_7 : Nat) (l0_7 : List Int) (A0_8 : Option Addr) (c0_8 : Nat) (l0_8 : List (S125)) (A0_9 : Option Addr) (c0_9 : Nat) (l0_9 : List (S59)) (A0_10 : Option Addr) (c0_10 : Nat) (l0_10 : List ByteArray) (a1 : Int) (r : Int) (w : World) (hr0_1 : Kd.C (Kd.int .i64) w A0_1 l0_1.length l0_1) (hc0_1 : l0_1.length ≤ c0_1) (hr0_2 : Kd.C k108 w A0_2 l0_2.length l0_2) (hc0_2 : l0_2.length ≤ c0_2) (hr0_3 : Kd.C (Kd.int .i64) w A0_3 l0_3.length l0_3) (hc0_3 : l0_3.length ≤ c0_3) (hr0_4 : Kd.C (Kd.int .i64) w A0_4 l0_4.length l0_4) (hc0_4 : l0_4.length ≤ c0_4) (hr0_5 : Kd.C (Kd.int .i64) w A0_5 l0_5.length l0_5) (hc0_5 : l0_5.length ≤ c0_5) (hr0_6 : Kd.C (Kd.slice 3 (Kd.int .i64)) w A0_6 l0_6.length l0_6) (hc0_6 : l0_6.length ≤ c0_6) (hr0_7 : Kd.C (Kd.int .i64) w A0_7 l0_7.length l0_7) (hc0_7 : l0_7.length ≤ c0_7) (hr0_8 : Kd.C k125 w A0_8 l0_8.length l0_8) (hc0_8 : l0_8.length ≤ c0_8) (hr0_9 : Kd.C k59 w A0_9 l0_9.length l0_9) (hc0_9 : l0_9.length ≤ c0_9) (hr0_10 : Kd.C Kd.string w A0_10 l0_10.length l0_10) (hc0_10 : l0_10.length ≤ c0_10) (h : shape_many.f a0_0 l0_1 l0_2 l0_3 l0_4 l0_5 l0_6 l0_7 l0_8 l0_9 l0_10 a1 = some r) :
    Calls Tryd.prog 108 #[.agg #[.int .i64 a0_0,.slice A0_1 l0_1.length c0_1,.slice A0_2 l0_2.length c0_2,.slice A0_3 l0_3.length c0_3,.slice A0_4 l0_4.length c0_4,.slice A0_5 l0_5.length c0_5,.slice A0_6 l0_6.length c0_6,.slice A0_7 l0_7.length c0_7,.slice A0_8 l0_8.length c0_8,.slice A0_9 l0_9.length c0_9,.slice A0_10 l0_10.length c0_10],.int .u8 a1] w fun e w' => e = .returned (.int .i64 r) ∧ Below w.heap.size w w':=by
  have hu65:=Tryd.underlying65
  have HR0_1:=Aside0.mk hr0_1
  have HC0_1:=Aside0.mk hc0_1
  clear hr0_1 hc0_1
  have HR0_2:=Aside0.mk hr0_2
  have HC0_2:=Aside0.mk hc0_2
  clear hr0_2 hc0_2
  have HR0_3:=Aside0.mk hr0_3
  have HC0_3:=Aside0.mk hc0_3
  clear hr0_3 hc0_3
  have HR0_4:=Aside0.mk hr0_4
  have HC0_4:=Aside0.mk hc0_4
  clear hr0_4 hc0_4
  have HR0_5:=Aside0.mk hr0_5
  have HC0_5:=Aside0.mk hc0_5
  clear hr0_5 hc0_5
  have HR0_6:=Aside0.mk hr0_6
  have HC0_6:=Aside0.mk hc0_6
  clear hr0_6 hc0_6
  have HR0_7:=Aside0.mk hr0_7
  have HC0_7:=Aside0.mk hc0_7
  clear hr0_7 hc0_7
  have HR0_8:=Aside0.mk hr0_8
  have HC0_8:=Aside0.mk hc0_8
  clear hr0_8 hc0_8
  have HR0_9:=Aside0.mk hr0_9
  have HC0_9:=Aside0.mk hc0_9
  clear hr0_9 hc0_9
  have HR0_10:=Aside0.mk hr0_10
  have HC0_10:=Aside0.mk hc0_10
  clear hr0_10 hc0_10
  have HB:=Aside0.mk (Below.refl w.heap.size w)
  have H : (if a1 = 105 then (some (l0_1.length : Int)) else (if a1 = 108 then (some (l0_2.length : Int)) else (if a1 = 111 then (some (l0_3.length : Int)) else (if a1 = 98 then (some (l0_4.length : Int)) else (if a1 = 99 then (some (l0_5.length : Int)) else (if a1 = 106 then (some (l0_6.length : Int)) else (if a1 = 102 then (some (l0_7.length : Int)) else (some (-1))))))))) = some r:=h
  clear h
  by_cases c3 : a1 = 105
  · rw [if_pos c3] at H
    have c3b0 : (a1 == 105) = true:=beq_iff_eq.mpr c3
    have c3b1 : (a1 != 105) = false:=bne_eq_false_iff_eq.mpr c3
    clear c3
    obtain rfl:=Option.some.inj H
    go_enter Tryd.func108,Tryd.ntmps108
    go_wp2_with (first|((with_reducible refine gate_dst (N:=2) rfl ?_);refine box_event ?hg (N:=2) ?hd (cs:=#[.int .i64 a0_0,.slice A0_1 l0_1.length c0_1,.slice A0_2 l0_2.length c0_2,.slice A0_3 l0_3.length c0_3,.slice A0_4 l0_4.length c0_4,.slice A0_5 l0_5.length c0_5,.slice A0_6 l0_6.length c0_6,.slice A0_7 l0_7.length c0_7,.slice A0_8 l0_8.length c0_8,.slice A0_9 l0_9.length c0_9,.slice A0_10 l0_10.length c0_10]) (t:=65) ?hr ?_;(case hd => rfl);(case hg => rfl);(case hr => first|(go_simp;done)|(go_simp;rfl));intro gb102 hg w4 hbox hb;have n0_:=Aside0.mk (below_step (by repeat (first|(with_reducible first|exact HB.out|apply below_alloc|apply pw_below_drewN|apply below_drew1)|exact HB.out)) hb);have n1_:=Aside0.mk (hbox);have n2_:=Aside0.mk ((by rw [hg];exact (below_size (by repeat (first|(with_reducible first|exact HB.out|apply below_alloc|apply pw_below_drewN|apply below_drew1)|exact HB.out))) : w.heap.size ≤ gb102));have n3_:=Aside0.mk ((by rw [hg];exact (below_size (by repeat (first|(with_reducible first|exact HB.out|apply below_alloc|apply pw_below_drewN|apply below_drew1)|exact HB.out))) : w.heap.size ≤ gb102));clear HB;have HB:=n0_;have BK102:=n1_;have GW102:=n2_;have GE102:=n3_;clear n0_ n1_ n2_ n3_;clear hb hbox hg;have hcz5_0 : w4.cell? ⟨gb102,0,none⟩ = some (.int .i64 a0_0):=(blk_cell BK102.out 0).trans rfl;have hcz5_1 : w4.cell? ⟨gb102,1,none⟩ = some (.slice A0_1 l0_1.length c0_1):=(blk_cell BK102.out 1).trans rfl;have hcz5_2 : w4.cell? ⟨gb102,2,none⟩ = some (.slice A0_2 l0_2.length c0_2):=(blk_cell BK102.out 2).trans rfl;have hcz5_3 : w4.cell? ⟨gb102,3,none⟩ = some (.slice A0_3 l0_3.length c0_3):=(blk_cell BK102.out 3).trans rfl;have hcz5_4 : w4.cell? ⟨gb102,4,none⟩ = some (.slice A0_4 l0_4.length c0_4):=(blk_cell BK102.out 4).trans rfl;have hcz5_5 : w4.cell? ⟨gb102,5,none⟩ = some (.slice A0_5 l0_5.length c0_5):=(blk_cell BK102.out 5).trans rfl;have hcz5_6 : w4.cell? ⟨gb102,6,none⟩ = some (.slice A0_6 l0_6.length c0_6):=(blk_cell BK102.out 6).trans rfl;have hcz5_7 : w4.cell? ⟨gb102,7,none⟩ = some (.slice A0_7 l0_7.length c0_7):=(blk_cell BK102.out 7).trans rfl;have hcz5_8 : w4.cell? ⟨gb102,8,none⟩ = some (.slice A0_8 l0_8.length c0_8):=(blk_cell BK102.out 8).trans rfl;have hcz5_9 : w4.cell? ⟨gb102,9,none⟩ = some (.slice A0_9 l0_9.length c0_9):=(blk_cell BK102.out 9).trans rfl;have hcz5_10 : w4.cell? ⟨gb102,10,none⟩ = some (.slice A0_10 l0_10.length c0_10):=(blk_cell BK102.out 10).trans rfl;have hfz5_0:=blk_frozen BK102.out 0;have hfz5_1:=blk_frozen BK102.out 1;have hfz5_2:=blk_frozen BK102.out 2;have hfz5_3:=blk_frozen BK102.out 3;have hfz5_4:=blk_frozen BK102.out 4;have hfz5_5:=blk_frozen BK102.out 5;have hfz5_6:=blk_frozen BK102.out 6;have hfz5_7:=blk_frozen BK102.out 7;have hfz5_8:=blk_frozen BK102.out 8;have hfz5_9:=blk_frozen BK102.out 9;have hfz5_10:=blk_frozen BK102.out 10))
    go_ret
    exact ⟨by first|rfl|(simp [errW_none,errW_some] <;> rfl)|(simp [*,errW_none,errW_some] <;> rfl),by repeat (first|(with_reducible first|exact HB.out|apply below_alloc|apply pw_below_drewN|apply below_drew1|refine below_set ?_ GE102.out)|exact HB.out)⟩
  · rw [if_neg c3] at H
    have c3b0 : (a1 == 105) = false:=beq_eq_false_iff_ne.mpr c3
    have c3b1 : (a1 != 105) = true:=bne_iff_ne.mpr c3
    by_cases c6 : a1 = 108
    · rw [if_pos c6] at H
      have c6b0 : (a1 == 108) = true:=beq_iff_eq.mpr c6
      have c6b1 : (a1 != 108) = false:=bne_eq_false_iff_eq.mpr c6
      clear c6
      obtain rfl:=Option.some.inj H
      go_enter Tryd.func108,Tryd.ntmps108
      go_wp2_with (first|((with_reducible refine gate_dst (N:=2) rfl ?_);refine box_event ?hg (N:=2) ?hd (cs:=#[.int .i64 a0_0,.slice A0_1 l0_1.length c0_1,.slice A0_2 l0_2.length c0_2,.slice A0_3 l0_3.length c0_3,.slice A0_4 l0_4.length c0_4,.slice A0_5 l0_5.length c0_5,.slice A0_6 l0_6.length c0_6,.slice A0_7 l0_7.length c0_7,.slice A0_8 l0_8.length c0_8,.slice A0_9 l0_9.length c0_9,.slice A0_10 l0_10.length c0_10]) (t:=65) ?hr ?_;(case hd => rfl);(case hg => rfl);(case hr => first|(go_simp;done)|(go_simp;rfl));intro gb102 hg w7 hbox hb;have n0_:=Aside0.mk (below_step (by repeat (first|(with_reducible first|exact HB.out|apply below_alloc|apply pw_below_drewN|apply below_drew1)|exact HB.out)) hb);have n1_:=Aside0.mk (hbox);have n2_:=Aside0.mk ((by rw [hg];exact (below_size (by repeat (first|(with_reducible first|exact HB.out|apply below_alloc|apply pw_below_drewN|apply below_drew1)|exact HB.out))) : w.heap.size ≤ gb102));have n3_:=Aside0.mk ((by rw [hg];exact (below_size (by repeat (first|(with_reducible first|exact HB.out|apply below_alloc|apply pw_below_drewN|apply below_drew1)|exact HB.out))) : w.heap.size ≤ gb102));clear HB;have HB:=n0_;have BK102:=n1_;have GW102:=n2_;have GE102:=n3_;clear n0_ n1_ n2_ n3_;clear hb hbox hg;have hcz8_0 : w7.cell? ⟨gb102,0,none⟩ = some (.int .i64 a0_0):=(blk_cell BK102.out 0).trans rfl;have hcz8_1 : w7.cell? ⟨gb102,1,none⟩ = some (.slice A0_1 l0_1.length c0_1):=(blk_cell BK102.out 1).trans rfl;have hcz8_2 : w7.cell? ⟨gb102,2,none⟩ = some (.slice A0_2 l0_2.length c0_2):=(blk_cell BK102.out 2).trans rfl;have hcz8_3 : w7.cell? ⟨gb102,3,none⟩ = some (.slice A0_3 l0_3.length c0_3):=(blk_cell BK102.out 3).trans rfl;have hcz8_4 : w7.cell? ⟨gb102,4,none⟩ = some (.slice A0_4 l0_4.length c0_4):=(blk_cell BK102.out 4).trans rfl;have hcz8_5 : w7.cell? ⟨gb102,5,none⟩ = some (.slice A0_5 l0_5.length c0_5):=(blk_cell BK102.out 5).trans rfl;have hcz8_6 : w7.cell? ⟨gb102,6,none⟩ = some (.slice A0_6 l0_6.length c0_6):=(blk_cell BK102.out 6).trans rfl;have hcz8_7 : w7.cell? ⟨gb102,7,none⟩ = some (.slice A0_7 l0_7.length c0_7):=(blk_cell BK102.out 7).trans rfl;have hcz8_8 : w7.cell? ⟨gb102,8,none⟩ = some (.slice A0_8 l0_8.length c0_8):=(blk_cell BK102.out 8).trans rfl;have hcz8_9 : w7.cell? ⟨gb102,9,none⟩ = some (.slice A0_9 l0_9.length c0_9):=(blk_cell BK102.out 9).trans rfl;have hcz8_10 : w7.cell? ⟨gb102,10,none⟩ = some (.slice A0_10 l0_10.length c0_10):=(blk_cell BK102.out 10).trans rfl;have hfz8_0:=blk_frozen BK102.out 0;have hfz8_1:=blk_frozen BK102.out 1;have hfz8_2:=blk_frozen BK102.out 2;have hfz8_3:=blk_frozen BK102.out 3;have hfz8_4:=blk_frozen BK102.out 4;have hfz8_5:=blk_frozen BK102.out 5;have hfz8_6:=blk_frozen BK102.out 6;have hfz8_7:=blk_frozen BK102.out 7;have hfz8_8:=blk_frozen BK102.out 8;have hfz8_9:=blk_frozen BK102.out 9;have hfz8_10:=blk_frozen BK102.out 10))
      go_ret
      exact ⟨by first|rfl|(simp [errW_none,errW_some] <;> rfl)|(simp [*,errW_none,errW_some] <;> rfl),by repeat (first|(with_reducible first|exact HB.out|apply below_alloc|apply pw_below_drewN|apply below_drew1|refine below_set ?_ GE102.out)|exact HB.out)⟩
    · rw [if_neg c6] at H
      have c6b0 : (a1 == 108) = false:=beq_eq_false_iff_ne.mpr c6
      have c6b1 : (a1 != 108) = true:=bne_iff_ne.mpr c6
      by_cases c9 : a1 = 111
      · rw [if_pos c9] at H
        have c9b0 : (a1 == 111) = true:=beq_iff_eq.mpr c9
        have c9b1 : (a1 != 111) = false:=bne_eq_false_iff_eq.mpr c9
        clear c9
        obtain rfl:=Option.some.inj H
        go_enter Tryd.func108,Tryd.ntmps108
        go_wp2_with (first|((with_reducible refine gate_dst (N:=2) rfl ?_);refine box_event ?hg (N:=2) ?hd (cs:=#[.int .i64 a0_0,.slice A0_1 l0_1.length c0_1,.slice A0_2 l0_2.length c0_2,.slice A0_3 l0_3.length c0_3,.slice A0_4 l0_4.length c0_4,.slice A0_5 l0_5.length c0_5,.slice A0_6 l0_6.length c0_6,.slice A0_7 l0_7.length c0_7,.slice A0_8 l0_8.length c0_8,.slice A0_9 l0_9.length c0_9,.slice A0_10 l0_10.length c0_10]) (t:=65) ?hr ?_;(case hd => rfl);(case hg => rfl);(case hr => first|(go_simp;done)|(go_simp;rfl));intro gb102 hg w10 hbox hb;have n0_:=Aside0.mk (below_step (by repeat (first|(with_reducible first|exact HB.out|apply below_alloc|apply pw_below_drewN|apply below_drew1)|exact HB.out)) hb);have n1_:=Aside0.mk (hbox);have n2_:=Aside0.mk ((by rw [hg];exact (below_size (by repeat (first|(with_reducible first|exact HB.out|apply below_alloc|apply pw_below_drewN|apply below_drew1)|exact HB.out))) : w.heap.size ≤ gb102));have n3_:=Aside0.mk ((by rw [hg];exact (below_size (by repeat (first|(with_reducible first|exact HB.out|apply below_alloc|apply pw_below_drewN|apply below_drew1)|exact HB.out))) : w.heap.size ≤ gb102));clear HB;have HB:=n0_;have BK102:=n1_;have GW102:=n2_;have GE102:=n3_;clear n0_ n1_ n2_ n3_;clear hb hbox hg;have hcz11_0 : w10.cell? ⟨gb102,0,none⟩ = some (.int .i64 a0_0):=(blk_cell BK102.out 0).trans rfl;have hcz11_1 : w10.cell? ⟨gb102,1,none⟩ = some (.slice A0_1 l0_1.length c0_1):=(blk_cell BK102.out 1).trans rfl;have hcz11_2 : w10.cell? ⟨gb102,2,none⟩ = some (.slice A0_2 l0_2.length c0_2):=(blk_cell BK102.out 2).trans rfl;have hcz11_3 : w10.cell? ⟨gb102,3,none⟩ = some (.slice A0_3 l0_3.length c0_3):=(blk_cell BK102.out 3).trans rfl;have hcz11_4 : w10.cell? ⟨gb102,4,none⟩ = some (.slice A0_4 l0_4.length c0_4):=(blk_cell BK102.out 4).trans rfl;have hcz11_5 : w10.cell? ⟨gb102,5,none⟩ = some (.slice A0_5 l0_5.length c0_5):=(blk_cell BK102.out 5).trans rfl;have hcz11_6 : w10.cell? ⟨gb102,6,none⟩ = some (.slice A0_6 l0_6.length c0_6):=(blk_cell BK102.out 6).trans rfl;have hcz11_7 : w10.cell? ⟨gb102,7,none⟩ = some (.slice A0_7 l0_7.length c0_7):=(blk_cell BK102.out 7).trans rfl;have hcz11_8 : w10.cell? ⟨gb102,8,none⟩ = some (.slice A0_8 l0_8.length c0_8):=(blk_cell BK102.out 8).trans rfl;have hcz11_9 : w10.cell? ⟨gb102,9,none⟩ = some (.slice A0_9 l0_9.length c0_9):=(blk_cell BK102.out 9).trans rfl;have hcz11_10 : w10.cell? ⟨gb102,10,none⟩ = some (.slice A0_10 l0_10.length c0_10):=(blk_cell BK102.out 10).trans rfl;have hfz11_0:=blk_frozen BK102.out 0;have hfz11_1:=blk_frozen BK102.out 1;have hfz11_2:=blk_frozen BK102.out 2;have hfz11_3:=blk_frozen BK102.out 3;have hfz11_4:=blk_frozen BK102.out 4;have hfz11_5:=blk_frozen BK102.out 5;have hfz11_6:=blk_frozen BK102.out 6;have hfz11_7:=blk_frozen BK102.out 7;have hfz11_8:=blk_frozen BK102.out 8;have hfz11_9:=blk_frozen BK102.out 9;have hfz11_10:=blk_frozen BK102.out 10))
        go_ret
        exact ⟨by first|rfl|(simp [errW_none,errW_some] <;> rfl)|(simp [*,errW_none,errW_some] <;> rfl),by repeat (first|(with_reducible first|exact HB.out|apply below_alloc|apply pw_below_drewN|apply below_drew1|refine below_set ?_ GE102.out)|exact HB.out)⟩
      · rw [if_neg c9] at H
        have c9b0 : (a1 == 111) = false:=beq_eq_false_iff_ne.mpr c9
        have c9b1 : (a1 != 111) = true:=bne_iff_ne.mpr c9
        by_cases c12 : a1 = 98
        · rw [if_pos c12] at H
          have c12b0 : (a1 == 98) = true:=beq_iff_eq.mpr c12
          have c12b1 : (a1 != 98) = false:=bne_eq_false_iff_eq.mpr c12
          clear c12
          obtain rfl:=Option.some.inj H
          go_enter Tryd.func108,Tryd.ntmps108
          go_wp2_with (first|((with_reducible refine gate_dst (N:=2) rfl ?_);refine box_event ?hg (N:=2) ?hd (cs:=#[.int .i64 a0_0,.slice A0_1 l0_1.length c0_1,.slice A0_2 l0_2.length c0_2,.slice A0_3 l0_3.length c0_3,.slice A0_4 l0_4.length c0_4,.slice A0_5 l0_5.length c0_5,.slice A0_6 l0_6.length c0_6,.slice A0_7 l0_7.length c0_7,.slice A0_8 l0_8.length c0_8,.slice A0_9 l0_9.length c0_9,.slice A0_10 l0_10.length c0_10]) (t:=65) ?hr ?_;(case hd => rfl);(case hg => rfl);(case hr => first|(go_simp;done)|(go_simp;rfl));intro gb102 hg w13 hbox hb;have n0_:=Aside0.mk (below_step (by repeat (first|(with_reducible first|exact HB.out|apply below_alloc|apply pw_below_drewN|apply below_drew1)|exact HB.out)) hb);have n1_:=Aside0.mk (hbox);have n2_:=Aside0.mk ((by rw [hg];exact (below_size (by repeat (first|(with_reducible first|exact HB.out|apply below_alloc|apply pw_below_drewN|apply below_drew1)|exact HB.out))) : w.heap.size ≤ gb102));have n3_:=Aside0.mk ((by rw [hg];exact (below_size (by repeat (first|(with_reducible first|exact HB.out|apply below_alloc|apply pw_below_drewN|apply below_drew1)|exact HB.out))) : w.heap.size ≤ gb102));clear HB;have HB:=n0_;have BK102:=n1_;have GW102:=n2_;have GE102:=n3_;clear n0_ n1_ n2_ n3_;clear hb hbox hg;have hcz14_0 : w13.cell? ⟨gb102,0,none⟩ = some (.int .i64 a0_0):=(blk_cell BK102.out 0).trans rfl;have hcz14_1 : w13.cell? ⟨gb102,1,none⟩ = some (.slice A0_1 l0_1.length c0_1):=(blk_cell BK102.out 1).trans rfl;have hcz14_2 : w13.cell? ⟨gb102,2,none⟩ = some (.slice A0_2 l0_2.length c0_2):=(blk_cell BK102.out 2).trans rfl;have hcz14_3 : w13.cell? ⟨gb102,3,none⟩ = some (.slice A0_3 l0_3.length c0_3):=(blk_cell BK102.out 3).trans rfl;have hcz14_4 : w13.cell? ⟨gb102,4,none⟩ = some (.slice A0_4 l0_4.length c0_4):=(blk_cell BK102.out 4).trans rfl;have hcz14_5 : w13.cell? ⟨gb102,5,none⟩ = some (.slice A0_5 l0_5.length c0_5):=(blk_cell BK102.out 5).trans rfl;have hcz14_6 : w13.cell? ⟨gb102,6,none⟩ = some (.slice A0_6 l0_6.length c0_6):=(blk_cell BK102.out 6).trans rfl;have hcz14_7 : w13.cell? ⟨gb102,7,none⟩ = some (.slice A0_7 l0_7.length c0_7):=(blk_cell BK102.out 7).trans rfl;have hcz14_8 : w13.cell? ⟨gb102,8,none⟩ = some (.slice A0_8 l0_8.length c0_8):=(blk_cell BK102.out 8).trans rfl;have hcz14_9 : w13.cell? ⟨gb102,9,none⟩ = some (.slice A0_9 l0_9.length c0_9):=(blk_cell BK102.out 9).trans rfl;have hcz14_10 : w13.cell? ⟨gb102,10,none⟩ = some (.slice A0_10 l0_10.length c0_10):=(blk_cell BK102.out 10).trans rfl;have hfz14_0:=blk_frozen BK102.out 0;have hfz14_1:=blk_frozen BK102.out 1;have hfz14_2:=blk_frozen BK102.out 2;have hfz14_3:=blk_frozen BK102.out 3;have hfz14_4:=blk_frozen BK102.out 4;have hfz14_5:=blk_frozen BK102.out 5;have hfz14_6:=blk_frozen BK102.out 6;have hfz14_7:=blk_frozen BK102.out 7;have hfz14_8:=blk_frozen BK102.out 8;have hfz14_9:=blk_frozen BK102.out 9;have hfz14_10:=blk_frozen BK102.out 10))
          go_ret
          exact ⟨by first|rfl|(simp [errW_none,errW_some] <;> rfl)|(simp [*,errW_none,errW_some] <;> rfl),by repeat (first|(with_reducible first|exact HB.out|apply below_alloc|apply pw_below_drewN|apply below_drew1|refine below_set ?_ GE102.out)|exact HB.out)⟩
        · rw [if_neg c12] at H
          have c12b0 : (a1 == 98) = false:=beq_eq_false_iff_ne.mpr c12
          have c12b1 : (a1 != 98) = true:=bne_iff_ne.mpr c12
          by_cases c15 : a1 = 99
          · rw [if_pos c15] at H
            have c15b0 : (a1 == 99) = true:=beq_iff_eq.mpr c15
            have c15b1 : (a1 != 99) = false:=bne_eq_false_iff_eq.mpr c15
            clear c15
            obtain rfl:=Option.some.inj H
            go_enter Tryd.func108,Tryd.ntmps108
            go_wp2_with (first|((with_reducible refine gate_dst (N:=2) rfl ?_);refine box_event ?hg (N:=2) ?hd (cs:=#[.int .i64 a0_0,.slice A0_1 l0_1.length c0_1,.slice A0_2 l0_2.length c0_2,.slice A0_3 l0_3.length c0_3,.slice A0_4 l0_4.length c0_4,.slice A0_5 l0_5.length c0_5,.slice A0_6 l0_6.length c0_6,.slice A0_7 l0_7.length c0_7,.slice A0_8 l0_8.length c0_8,.slice A0_9 l0_9.length c0_9,.slice A0_10 l0_10.length c0_10]) (t:=65) ?hr ?_;(case hd => rfl);(case hg => rfl);(case hr => first|(go_simp;done)|(go_simp;rfl));intro gb102 hg w16 hbox hb;have n0_:=Aside0.mk (below_step (by repeat (first|(with_reducible first|exact HB.out|apply below_alloc|apply pw_below_drewN|apply below_drew1)|exact HB.out)) hb);have n1_:=Aside0.mk (hbox);have n2_:=Aside0.mk ((by rw [hg];exact (below_size (by repeat (first|(with_reducible first|exact HB.out|apply below_alloc|apply pw_below_drewN|apply below_drew1)|exact HB.out))) : w.heap.size ≤ gb102));have n3_:=Aside0.mk ((by rw [hg];exact (below_size (by repeat (first|(with_reducible first|exact HB.out|apply below_alloc|apply pw_below_drewN|apply below_drew1)|exact HB.out))) : w.heap.size ≤ gb102));clear HB;have HB:=n0_;have BK102:=n1_;have GW102:=n2_;have GE102:=n3_;clear n0_ n1_ n2_ n3_;clear hb hbox hg;have hcz17_0 : w16.cell? ⟨gb102,0,none⟩ = some (.int .i64 a0_0):=(blk_cell BK102.out 0).trans rfl;have hcz17_1 : w16.cell? ⟨gb102,1,none⟩ = some (.slice A0_1 l0_1.length c0_1):=(blk_cell BK102.out 1).trans rfl;have hcz17_2 : w16.cell? ⟨gb102,2,none⟩ = some (.slice A0_2 l0_2.length c0_2):=(blk_cell BK102.out 2).trans rfl;have hcz17_3 : w16.cell? ⟨gb102,3,none⟩ = some (.slice A0_3 l0_3.length c0_3):=(blk_cell BK102.out 3).trans rfl;have hcz17_4 : w16.cell? ⟨gb102,4,none⟩ = some (.slice A0_4 l0_4.length c0_4):=(blk_cell BK102.out 4).trans rfl;have hcz17_5 : w16.cell? ⟨gb102,5,none⟩ = some (.slice A0_5 l0_5.length c0_5):=(blk_cell BK102.out 5).trans rfl;have hcz17_6 : w16.cell? ⟨gb102,6,none⟩ = some (.slice A0_6 l0_6.length c0_6):=(blk_cell BK102.out 6).trans rfl;have hcz17_7 : w16.cell? ⟨gb102,7,none⟩ = some (.slice A0_7 l0_7.length c0_7):=(blk_cell BK102.out 7).trans rfl;have hcz17_8 : w16.cell? ⟨gb102,8,none⟩ = some (.slice A0_8 l0_8.length c0_8):=(blk_cell BK102.out 8).trans rfl;have hcz17_9 : w16.cell? ⟨gb102,9,none⟩ = some (.slice A0_9 l0_9.length c0_9):=(blk_cell BK102.out 9).trans rfl;have hcz17_10 : w16.cell? ⟨gb102,10,none⟩ = some (.slice A0_10 l0_10.length c0_10):=(blk_cell BK102.out 10).trans rfl;have hfz17_0:=blk_frozen BK102.out 0;have hfz17_1:=blk_frozen BK102.out 1;have hfz17_2:=blk_frozen BK102.out 2;have hfz17_3:=blk_frozen BK102.out 3;have hfz17_4:=blk_frozen BK102.out 4;have hfz17_5:=blk_frozen BK102.out 5;have hfz17_6:=blk_frozen BK102.out 6;have hfz17_7:=blk_frozen BK102.out 7;have hfz17_8:=blk_frozen BK102.out 8;have hfz17_9:=blk_frozen BK102.out 9;have hfz17_10:=blk_frozen BK102.out 10))
            go_ret
            exact ⟨by first|rfl|(simp [errW_none,errW_some] <;> rfl)|(simp [*,errW_none,errW_some] <;> rfl),by repeat (first|(with_reducible first|exact HB.out|apply below_alloc|apply pw_below_drewN|apply below_drew1|refine below_set ?_ GE102.out)|exact HB.out)⟩
          · rw [if_neg c15] at H
            have c15b0 : (a1 == 99) = false:=beq_eq_false_iff_ne.mpr c15
            have c15b1 : (a1 != 99) = true:=bne_iff_ne.mpr c15
            by_cases c18 : a1 = 106
            · rw [if_pos c18] at H
              have c18b0 : (a1 == 106) = true:=beq_iff_eq.mpr c18
              have c18b1 : (a1 != 106) = false:=bne_eq_false_iff_eq.mpr c18
              clear c18
              obtain rfl:=Option.some.inj H
              go_enter Tryd.func108,Tryd.ntmps108
              go_wp2_with (first|((with_reducible refine gate_dst (N:=2) rfl ?_);refine box_event ?hg (N:=2) ?hd (cs:=#[.int .i64 a0_0,.slice A0_1 l0_1.length c0_1,.slice A0_2 l0_2.length c0_2,.slice A0_3 l0_3.length c0_3,.slice A0_4 l0_4.length c0_4,.slice A0_5 l0_5.length c0_5,.slice A0_6 l0_6.length c0_6,.slice A0_7 l0_7.length c0_7,.slice A0_8 l0_8.length c0_8,.slice A0_9 l0_9.length c0_9,.slice A0_10 l0_10.length c0_10]) (t:=65) ?hr ?_;(case hd => rfl);(case hg => rfl);(case hr => first|(go_simp;done)|(go_simp;rfl));intro gb102 hg w19 hbox hb;have n0_:=Aside0.mk (below_step (by repeat (first|(with_reducible first|exact HB.out|apply below_alloc|apply pw_below_drewN|apply below_drew1)|exact HB.out)) hb);have n1_:=Aside0.mk (hbox);have n2_:=Aside0.mk ((by rw [hg];exact (below_size (by repeat (first|(with_reducible first|exact HB.out|apply below_alloc|apply pw_below_drewN|apply below_drew1)|exact HB.out))) : w.heap.size ≤ gb102));have n3_:=Aside0.mk ((by rw [hg];exact (below_size (by repeat (first|(with_reducible first|exact HB.out|apply below_alloc|apply pw_below_drewN|apply below_drew1)|exact HB.out))) : w.heap.size ≤ gb102));clear HB;have HB:=n0_;have BK102:=n1_;have GW102:=n2_;have GE102:=n3_;clear n0_ n1_ n2_ n3_;clear hb hbox hg;have hcz20_0 : w19.cell? ⟨gb102,0,none⟩ = some (.int .i64 a0_0):=(blk_cell BK102.out 0).trans rfl;have hcz20_1 : w19.cell? ⟨gb102,1,none⟩ = some (.slice A0_1 l0_1.length c0_1):=(blk_cell BK102.out 1).trans rfl;have hcz20_2 : w19.cell? ⟨gb102,2,none⟩ = some (.slice A0_2 l0_2.length c0_2):=(blk_cell BK102.out 2).trans rfl;have hcz20_3 : w19.cell? ⟨gb102,3,none⟩ = some (.slice A0_3 l0_3.length c0_3):=(blk_cell BK102.out 3).trans rfl;have hcz20_4 : w19.cell? ⟨gb102,4,none⟩ = some (.slice A0_4 l0_4.length c0_4):=(blk_cell BK102.out 4).trans rfl;have hcz20_5 : w19.cell? ⟨gb102,5,none⟩ = some (.slice A0_5 l0_5.length c0_5):=(blk_cell BK102.out 5).trans rfl;have hcz20_6 : w19.cell? ⟨gb102,6,none⟩ = some (.slice A0_6 l0_6.length c0_6):=(blk_cell BK102.out 6).trans rfl;have hcz20_7 : w19.cell? ⟨gb102,7,none⟩ = some (.slice A0_7 l0_7.length c0_7):=(blk_cell BK102.out 7).trans rfl;have hcz20_8 : w19.cell? ⟨gb102,8,none⟩ = some (.slice A0_8 l0_8.length c0_8):=(blk_cell BK102.out 8).trans rfl;have hcz20_9 : w19.cell? ⟨gb102,9,none⟩ = some (.slice A0_9 l0_9.length c0_9):=(blk_cell BK102.out 9).trans rfl;have hcz20_10 : w19.cell? ⟨gb102,10,none⟩ = some (.slice A0_10 l0_10.length c0_10):=(blk_cell BK102.out 10).trans rfl;have hfz20_0:=blk_frozen BK102.out 0;have hfz20_1:=blk_frozen BK102.out 1;have hfz20_2:=blk_frozen BK102.out 2;have hfz20_3:=blk_frozen BK102.out 3;have hfz20_4:=blk_frozen BK102.out 4;have hfz20_5:=blk_frozen BK102.out 5;have hfz20_6:=blk_frozen BK102.out 6;have hfz20_7:=blk_frozen BK102.out 7;have hfz20_8:=blk_frozen BK102.out 8;have hfz20_9:=blk_frozen BK102.out 9;have hfz20_10:=blk_frozen BK102.out 10))
              go_ret
              exact ⟨by first|rfl|(simp [errW_none,errW_some] <;> rfl)|(simp [*,errW_none,errW_some] <;> rfl),by repeat (first|(with_reducible first|exact HB.out|apply below_alloc|apply pw_below_drewN|apply below_drew1|refine below_set ?_ GE102.out)|exact HB.out)⟩
            · rw [if_neg c18] at H
              have c18b0 : (a1 == 106) = false:=beq_eq_false_iff_ne.mpr c18
              have c18b1 : (a1 != 106) = true:=bne_iff_ne.mpr c18
              by_cases c21 : a1 = 102
              · rw [if_pos c21] at H
                have c21b0 : (a1 == 102) = true:=beq_iff_eq.mpr c21
                have c21b1 : (a1 != 102) = false:=bne_eq_false_iff_eq.mpr c21
                clear c21
                obtain rfl:=Option.some.inj H
                go_enter Tryd.func108,Tryd.ntmps108
                go_wp2_with (first|((with_reducible refine gate_dst (N:=2) rfl ?_);refine box_event ?hg (N:=2) ?hd (cs:=#[.int .i64 a0_0,.slice A0_1 l0_1.length c0_1,.slice A0_2 l0_2.length c0_2,.slice A0_3 l0_3.length c0_3,.slice A0_4 l0_4.length c0_4,.slice A0_5 l0_5.length c0_5,.slice A0_6 l0_6.length c0_6,.slice A0_7 l0_7.length c0_7,.slice A0_8 l0_8.length c0_8,.slice A0_9 l0_9.length c0_9,.slice A0_10 l0_10.length c0_10]) (t:=65) ?hr ?_;(case hd => rfl);(case hg => rfl);(case hr => first|(go_simp;done)|(go_simp;rfl));intro gb102 hg w22 hbox hb;have n0_:=Aside0.mk (below_step (by repeat (first|(with_reducible first|exact HB.out|apply below_alloc|apply pw_below_drewN|apply below_drew1)|exact HB.out)) hb);have n1_:=Aside0.mk (hbox);have n2_:=Aside0.mk ((by rw [hg];exact (below_size (by repeat (first|(with_reducible first|exact HB.out|apply below_alloc|apply pw_below_drewN|apply below_drew1)|exact HB.out))) : w.heap.size ≤ gb102));have n3_:=Aside0.mk ((by rw [hg];exact (below_size (by repeat (first|(with_reducible first|exact HB.out|apply below_alloc|apply pw_below_drewN|apply below_drew1)|exact HB.out))) : w.heap.size ≤ gb102));clear HB;have HB:=n0_;have BK102:=n1_;have GW102:=n2_;have GE102:=n3_;clear n0_ n1_ n2_ n3_;clear hb hbox hg;have hcz23_0 : w22.cell? ⟨gb102,0,none⟩ = some (.int .i64 a0_0):=(blk_cell BK102.out 0).trans rfl;have hcz23_1 : w22.cell? ⟨gb102,1,none⟩ = some (.slice A0_1 l0_1.length c0_1):=(blk_cell BK102.out 1).trans rfl;have hcz23_2 : w22.cell? ⟨gb102,2,none⟩ = some (.slice A0_2 l0_2.length c0_2):=(blk_cell BK102.out 2).trans rfl;have hcz23_3 : w22.cell? ⟨gb102,3,none⟩ = some (.slice A0_3 l0_3.length c0_3):=(blk_cell BK102.out 3).trans rfl;have hcz23_4 : w22.cell? ⟨gb102,4,none⟩ = some (.slice A0_4 l0_4.length c0_4):=(blk_cell BK102.out 4).trans rfl;have hcz23_5 : w22.cell? ⟨gb102,5,none⟩ = some (.slice A0_5 l0_5.length c0_5):=(blk_cell BK102.out 5).trans rfl;have hcz23_6 : w22.cell? ⟨gb102,6,none⟩ = some (.slice A0_6 l0_6.length c0_6):=(blk_cell BK102.out 6).trans rfl;have hcz23_7 : w22.cell? ⟨gb102,7,none⟩ = some (.slice A0_7 l0_7.length c0_7):=(blk_cell BK102.out 7).trans rfl;have hcz23_8 : w22.cell? ⟨gb102,8,none⟩ = some (.slice A0_8 l0_8.length c0_8):=(blk_cell BK102.out 8).trans rfl;have hcz23_9 : w22.cell? ⟨gb102,9,none⟩ = some (.slice A0_9 l0_9.length c0_9):=(blk_cell BK102.out 9).trans rfl;have hcz23_10 : w22.cell? ⟨gb102,10,none⟩ = some (.slice A0_10 l0_10.length c0_10):=(blk_cell BK102.out 10).trans rfl;have hfz23_0:=blk_frozen BK102.out 0;have hfz23_1:=blk_frozen BK102.out 1;have hfz23_2:=blk_frozen BK102.out 2;have hfz23_3:=blk_frozen BK102.out 3;have hfz23_4:=blk_frozen BK102.out 4;have hfz23_5:=blk_frozen BK102.out 5;have hfz23_6:=blk_frozen BK102.out 6;have hfz23_7:=blk_frozen BK102.out 7;have hfz23_8:=blk_frozen BK102.out 8;have hfz23_9:=blk_frozen BK102.out 9;have hfz23_10:=blk_frozen BK102.out 10))
                go_ret
                exact ⟨by first|rfl|(simp [errW_none,errW_some] <;> rfl)|(simp [*,errW_none,errW_some] <;> rfl),by repeat (first|(with_reducible first|exact HB.out|apply below_alloc|apply pw_below_drewN|apply below_drew1|refine below_set ?_ GE102.out)|exact HB.out)⟩
              · rw [if_neg c21] at H
                have c21b0 : (a1 == 102) = false:=beq_eq_false_iff_ne.mpr c21
                have c21b1 : (a1 != 102) = true:=bne_iff_ne.mpr c21
                obtain rfl:=Option.some.inj H
                go_enter Tryd.func108,Tryd.ntmps108
                go_wp2_with (first|((with_reducible refine gate_dst (N:=2) rfl ?_);refine box_event ?hg (N:=2) ?hd (cs:=#[.int .i64 a0_0,.slice A0_1 l0_1.length c0_1,.slice A0_2 l0_2.length c0_2,.slice A0_3 l0_3.length c0_3,.slice A0_4 l0_4.length c0_4,.slice A0_5 l0_5.length c0_5,.slice A0_6 l0_6.length c0_6,.slice A0_7 l0_7.length c0_7,.slice A0_8 l0_8.length c0_8,.slice A0_9 l0_9.length c0_9,.slice A0_10 l0_10.length c0_10]) (t:=65) ?hr ?_;(case hd => rfl);(case hg => rfl);(case hr => first|(go_simp;done)|(go_simp;rfl));intro gb102 hg w24 hbox hb;have n0_:=Aside0.mk (below_step (by repeat (first|(with_reducible first|exact HB.out|apply below_alloc|apply pw_below_drewN|apply below_drew1)|exact HB.out)) hb);have n1_:=Aside0.mk (hbox);have n2_:=Aside0.mk ((by rw [hg];exact (below_size (by repeat (first|(with_reducible first|exact HB.out|apply below_alloc|apply pw_below_drewN|apply below_drew1)|exact HB.out))) : w.heap.size ≤ gb102));have n3_:=Aside0.mk ((by rw [hg];exact (below_size (by repeat (first|(with_reducible first|exact HB.out|apply below_alloc|apply pw_below_drewN|apply below_drew1)|exact HB.out))) : w.heap.size ≤ gb102));clear HB;have HB:=n0_;have BK102:=n1_;have GW102:=n2_;have GE102:=n3_;clear n0_ n1_ n2_ n3_;clear hb hbox hg))
                go_ret
                exact ⟨by first|rfl|(simp [errW_none,errW_some] <;> rfl)|(simp [*,errW_none,errW_some] <;> rfl),by repeat (first|(with_reducible first|exact HB.out|apply below_alloc|apply pw_below_drewN|apply below_drew1|refine below_set ?_ GE102.out)|exact HB.out)⟩
def trestleref04_fault.f (a0 : Int) (a1 : Int) : Option (Int × Int):=some (a0,a1)
set_option maxHeartbeats 8000000 in
set_option maxRecDepth 100000 in
theorem trestleref04_fault.calls (a0 : Int) (a1 : Int) (r1 : Int) (r2 : Int) (w : World) (h : trestleref04_fault.f a0 a1 = some (r1,r2)) :
    Calls Tryd.prog 51 #[.int .i64 a0,.int .i64 a1] w fun e w' => e = .returned (.agg #[.int .i64 r1,.int .i64 r2]) ∧ Below w.heap.size w w':=by
  have hu40:=Tryd.underlying40
  have HB:=Aside0.mk (Below.refl w.heap.size w)
  have H : (some (a0,a1)) = some (r1,r2):=h
  clear h
  simp only [Option.some.injEq,Prod.mk.injEq] at H
  obtain ⟨rfl,rfl⟩:=H
  go_enter Tryd.func51,Tryd.ntmps51
  go_wp2_with (first|((with_reducible refine gate_dst (N:=4) rfl ?_);refine box_event ?hg (N:=4) ?hd (cs:=#[.int .i64 0,.int .i64 0]) (t:=40) ?hr ?_;(case hd => rfl);(case hg => rfl);(case hr => first|(go_simp;done)|(go_simp;rfl));intro gb103 hg w3 hbox hb;have n0_:=Aside0.mk (below_step (by repeat (first|(with_reducible first|exact HB.out|apply below_alloc|apply pw_below_drewN|apply below_drew1)|exact HB.out)) hb);have n1_:=Aside0.mk (hbox);have n2_:=Aside0.mk ((by rw [hg];exact (below_size (by repeat (first|(with_reducible first|exact HB.out|apply below_alloc|apply pw_below_drewN|apply below_drew1)|exact HB.out))) : w.heap.size ≤ gb103));have n3_:=Aside0.mk ((by rw [hg];exact (below_size (by repeat (first|(with_reducible first|exact HB.out|apply below_alloc|apply pw_below_drewN|apply below_drew1)|exact HB.out))) : w.heap.size ≤ gb103));clear HB;have HB:=n0_;have BK103:=n1_;have GW103:=n2_;have GE103:=n3_;clear n0_ n1_ n2_ n3_;clear hb hbox hg;have hcz4_0 : w3.cell? ⟨gb103,0,none⟩ = some (.int .i64 0):=(blk_cell BK103.out 0).trans rfl;have hcz4_1 : w3.cell? ⟨gb103,1,none⟩ = some (.int .i64 0):=(blk_cell BK103.out 1).trans rfl;have hfz4_0:=blk_frozen BK103.out 0;have hfz4_1:=blk_frozen BK103.out 1))
  refine bodyPost_ret (results_cell_row rfl _ _ gb103 40 #[.int .i64 a0,.int .i64 a1] (0,0) _ rfl (by (with_reducible repeat (first|refine blk_drewN ?_ _|refine blk_drew ?_|refine blk_alloc ?_ _));refine blk_put (cs:=#[.int .i64 a0,.int .i64 0]) ?_ 1 _ rfl;(with_reducible repeat (first|refine blk_drewN ?_ _|refine blk_drew ?_|refine blk_alloc ?_ _));refine blk_put (cs:=#[.int .i64 0,.int .i64 0]) ?_ 0 _ rfl;(with_reducible repeat (first|refine blk_drewN ?_ _|refine blk_drew ?_|refine blk_alloc ?_ _));exact BK103.out) Tryd.underlying40 rfl (by kernel_rfl)) rfl ?_
  exact ⟨by first|rfl|(simp [errW_none,errW_some] <;> rfl)|(simp [*,errW_none,errW_some] <;> rfl),by repeat (first|(with_reducible first|exact HB.out|apply below_alloc|apply pw_below_drewN|apply below_drew1|refine below_set ?_ GE103.out)|exact HB.out)⟩
def trestleref04_Line.l0 : Nat → ByteArray → Int → Int → Option (ByteArray × Int × Bool)
  | 0,_,_,_ => none
  | k + 1,x0,x1,x7 => if x7 < (x0.size : Int) then (if 0 ≤ x7 then (if (bt x0 x7) = 10 then (if 0 ≤ x1 then (if x1 ≤ x7 then (if x7 ≤ (x0.size : Int) then (some (x0.extract (x1 : Int).toNat (x7 : Int).toNat,wrap64 (x7 + 1),true)) else (none)) else (none)) else (none)) else (trestleref04_Line.l0 k x0 x1 (wrap64 (x7 + 1)))) else (none)) else (some ((⟨#[]⟩ : ByteArray),x1,false))
def trestleref04_Line.f (k : Nat) (a0 : ByteArray) (a1 : Int) : Option (ByteArray × Int × Bool):=trestleref04_Line.l0 k a0 a1 a1
set_option maxHeartbeats 8000000 in
set_option maxRecDepth 100000 in
theorem trestleref04_Line.calls (k : Nat) (a0 : ByteArray) (a1 : Int) (r1 : ByteArray) (r2 : Int) (r3 : Bool) (w : World) (h : trestleref04_Line.f k a0 a1 = some (r1,r2,r3)) :
    Calls Tryd.prog 57 #[.string a0,.int .i64 a1] w fun e w' => e = .returned (.tuple #[.string r1,.int .i64 r2,.bool r3]) ∧ Drawn0 w w':=by
  have H : (trestleref04_Line.l0 k a0 a1 a1) = some (r1,r2,r3):=h
  clear h
  have H':=Aside0.mk H
  clear H
  go_enter Tryd.func57,Tryd.ntmps57
  go_wp2
  (try simp only [Act.put,List.setIfInBounds_toArray,List.set_cons_zero,List.set_cons_succ])
  go_loopg [7] k (fun kq v7 w' => ∃ (x7_1 : Int),v7 = .int .i64 x7_1 ∧ Aside0 (trestleref04_Line.l0 kq a0 a1 x7_1 = some (r1,r2,r3)) ∧ Aside0 (kq ≤ k) ∧ Drawn0 w w')
  case atStart => exact ⟨(a1),(by first|rfl|(simp;done)|(simp [*];done)),H',⟨Nat.le_refl _⟩,by repeat (first|exact Drawn0.refl _|apply Drawn0.step)⟩
  case round =>
    clear H'
    try clear p2
    obtain ⟨x7_1,rfl,HA,HK1,⟨m1,rfl⟩⟩:=hrel
    cases gk with
    | zero => exact absurd HA.out (by simp [trestleref04_Line.l0])
    | succ k1 =>
      have H:=HA.out
      clear HA
      simp only [trestleref04_Line.l0] at H
      by_cases c3 : x7_1 < (a0.size : Int)
      · rw [if_pos c3] at H
        have c3b0 : decide (x7_1 < (a0.size : Int)) = true:=decide_eq_true c3
        clear c3
        by_cases c4 : 0 ≤ x7_1
        · rw [if_pos c4] at H
          have c4b0 : decide (0 ≤ x7_1) = true:=decide_eq_true c4
          clear c4
          by_cases c6 : (bt a0 x7_1) = 10
          · rw [if_pos c6] at H
            have c6b0 : ((bt a0 x7_1) == 10) = true:=beq_iff_eq.mpr c6
            have c6b1 : ((bt a0 x7_1) != 10) = false:=bne_eq_false_iff_eq.mpr c6
            clear c6
            by_cases c7 : 0 ≤ a1
            · rw [if_pos c7] at H
              have c7b0:=eq_true c7
              have c7b1 : decide (0 ≤ a1) = true:=decide_eq_true c7
              clear c7
              by_cases c8 : a1 ≤ x7_1
              · rw [if_pos c8] at H
                have c8b0:=eq_true c8
                have c8b1 : decide (a1 ≤ x7_1) = true:=decide_eq_true c8
                clear c8
                by_cases c9 : x7_1 ≤ (a0.size : Int)
                · rw [if_pos c9] at H
                  have c9b0:=eq_true c9
                  have c9b1 : decide (x7_1 ≤ (a0.size : Int)) = true:=decide_eq_true c9
                  clear c9
                  simp only [Option.some.injEq,Prod.mk.injEq] at H
                  obtain ⟨rfl,rfl,rfl⟩:=H
                  have p5 : 0 ≤ (x7_1 : Int):=of_decide_eq_true (by first|(with_reducible assumption)|assumption)
                  have q5 : x7_1 < (a0.size : Int):=of_decide_eq_true (by first|(with_reducible assumption)|assumption)
                  have hx5:=bt_at a0 x7_1
                  replace p5:=eq_true p5
                  replace q5:=eq_true q5
                  go_wp2
                  go_ret3
                  exact ⟨by first|rfl|(simp;done)|(simp [*];done),by repeat (first|exact Drawn0.refl _|apply Drawn0.step)⟩
                · rw [if_neg c9] at H
                  exact absurd H (by simp)
              · rw [if_neg c8] at H
                exact absurd H (by simp)
            · rw [if_neg c7] at H
              exact absurd H (by simp)
          · rw [if_neg c6] at H
            have c6b0 : ((bt a0 x7_1) == 10) = false:=beq_eq_false_iff_ne.mpr c6
            have c6b1 : ((bt a0 x7_1) != 10) = true:=bne_iff_ne.mpr c6
            have H':=Aside0.mk H
            clear H
            have p5 : 0 ≤ (x7_1 : Int):=of_decide_eq_true (by first|(with_reducible assumption)|assumption)
            have q5 : x7_1 < (a0.size : Int):=of_decide_eq_true (by first|(with_reducible assumption)|assumption)
            have hx5:=bt_at a0 x7_1
            replace p5:=eq_true p5
            replace q5:=eq_true q5
            go_wp2
            go_roundg k1
            case measure => have:=HK1.out;omega
            case rel => exact ⟨(wrap64 (x7_1 + 1)),(by first|rfl|(simp;done)|(simp [*];done)),H',⟨by have:=HK1.out;omega⟩,by repeat (first|exact Drawn0.refl _|apply Drawn0.step)⟩
        · rw [if_neg c4] at H
          exact absurd H (by simp)
      · rw [if_neg c3] at H
        have c3b0 : decide (x7_1 < (a0.size : Int)) = false:=decide_eq_false c3
        clear c3
        simp only [Option.some.injEq,Prod.mk.injEq] at H
        obtain ⟨rfl,rfl,rfl⟩:=H
        go_wp2
        go_ret3
        exact ⟨by first|rfl|(simp;done)|(simp [*];done),by repeat (first|exact Drawn0.refl _|apply Drawn0.step)⟩
def trestleref02_isDigit.f (a0 : ByteArray) (a1 : Int) : Option (Bool):=if a1 ≥ 0 then (if a1 < (a0.size : Int) then (if 0 ≤ a1 then (if (bt a0 a1) ≥ 48 then (some (decide ((bt a0 a1) ≤ 57))) else (some false)) else (none)) else (some false)) else (some false)
set_option maxHeartbeats 8000000 in
set_option maxRecDepth 100000 in
theorem trestleref02_isDigit.calls (a0 : ByteArray) (a1 : Int) (r : Bool) (w : World) (h : trestleref02_isDigit.f a0 a1 = some r) :
    Calls Tryd.prog 102 #[.string a0,.int .i64 a1] w fun e w' => e = .returned (.bool r) ∧ Drawn0 w w':=by
  have H : (if a1 ≥ 0 then (if a1 < (a0.size : Int) then (if 0 ≤ a1 then (if (bt a0 a1) ≥ 48 then (some (decide ((bt a0 a1) ≤ 57))) else (some false)) else (none)) else (some false)) else (some false)) = some r:=h
  clear h
  by_cases c3 : a1 ≥ 0
  · rw [if_pos c3] at H
    have c3b0 : decide (0 ≤ a1) = true:=decide_eq_true c3
    clear c3
    by_cases c4 : a1 < (a0.size : Int)
    · rw [if_pos c4] at H
      have c4b0 : decide (a1 < (a0.size : Int)) = true:=decide_eq_true c4
      clear c4
      by_cases c5 : 0 ≤ a1
      · rw [if_pos c5] at H
        have c5b0 : decide (0 ≤ a1) = true:=decide_eq_true c5
        clear c5
        by_cases c7 : (bt a0 a1) ≥ 48
        · rw [if_pos c7] at H
          have c7b0 : decide (48 ≤ (bt a0 a1)) = true:=decide_eq_true c7
          clear c7
          obtain rfl:=Option.some.inj H
          have p6 : 0 ≤ (a1 : Int):=of_decide_eq_true (by first|(with_reducible assumption)|assumption)
          have q6 : a1 < (a0.size : Int):=of_decide_eq_true (by first|(with_reducible assumption)|assumption)
          have hx6:=bt_at a0 a1
          replace p6:=eq_true p6
          replace q6:=eq_true q6
          have p8 : 0 ≤ (a1 : Int):=of_decide_eq_true (by first|(with_reducible assumption)|assumption)
          have q8 : a1 < (a0.size : Int):=of_decide_eq_true (by first|(with_reducible assumption)|assumption)
          have hx8:=bt_at a0 a1
          replace p8:=eq_true p8
          replace q8:=eq_true q8
          go_enter Tryd.func102,Tryd.ntmps102
          go_wp2
          go_ret
          exact ⟨by first|rfl|(simp;done)|(simp [*];done),by repeat (first|exact Drawn0.refl _|apply Drawn0.step)⟩
        · rw [if_neg c7] at H
          have c7b0 : decide (48 ≤ (bt a0 a1)) = false:=decide_eq_false c7
          clear c7
          obtain rfl:=Option.some.inj H
          have p6 : 0 ≤ (a1 : Int):=of_decide_eq_true (by first|(with_reducible assumption)|assumption)
          have q6 : a1 < (a0.size : Int):=of_decide_eq_true (by first|(with_reducible assumption)|assumption)
          have hx6:=bt_at a0 a1
          replace p6:=eq_true p6
          replace q6:=eq_true q6
          go_enter Tryd.func102,Tryd.ntmps102
          go_wp2
          go_ret
          exact ⟨by first|rfl|(simp;done)|(simp [*];done),by repeat (first|exact Drawn0.refl _|apply Drawn0.step)⟩
      · rw [if_neg c5] at H
        exact absurd H (by simp)
    · rw [if_neg c4] at H
      have c4b0 : decide (a1 < (a0.size : Int)) = false:=decide_eq_false c4
      clear c4
      obtain rfl:=Option.some.inj H
      go_enter Tryd.func102,Tryd.ntmps102
      go_wp2
      go_ret
      exact ⟨by first|rfl|(simp;done)|(simp [*];done),by repeat (first|exact Drawn0.refl _|apply Drawn0.step)⟩
  · rw [if_neg c3] at H
    have c3b0 : decide (0 ≤ a1) = false:=decide_eq_false c3
    clear c3
    obtain rfl:=Option.some.inj H
    go_enter Tryd.func102,Tryd.ntmps102
    go_wp2
    go_ret
    exact ⟨by first|rfl|(simp;done)|(simp [*];done),by repeat (first|exact Drawn0.refl _|apply Drawn0.step)⟩
mutual
def trestleref02_Number0.j0 : Nat → ByteArray → Int → Bool → Option (Int × Int × Bool)
  | 0,_,_,_ => none
  | k + 1,x0,x1,x24 => if x24 = true then (some (0,0,false)) else (trestleref02_Number0.l0 k x0 0 x1)
def trestleref02_Number0.l0 : Nat → ByteArray → Int → Int → Option (Int × Int × Bool)
  | 0,_,_,_ => none
  | k + 1,x0,x7,x8 => (trestleref02_isDigit.f x0 x8).bind fun t106 => (if t106 = true then (if 0 ≤ x8 then (if x8 < (x0.size : Int) then (if (wrap64 ((wrap64 (x7 * 10)) + (((bt x0 x8) - 48) % 256))) > 2147483647 then (some (0,0,false)) else (trestleref02_Number0.l0 k x0 (wrap64 ((wrap64 (x7 * 10)) + (((bt x0 x8) - 48) % 256))) (wrap64 (x8 + 1)))) else (none)) else (none)) else (some (x7,x8,true)))
end
def trestleref02_Number0.f (k : Nat) (a0 : ByteArray) (a1 : Int) : Option (Int × Int × Bool):=(trestleref02_isDigit.f a0 a1).bind fun t104 => (if t104 = true then (if 0 ≤ a1 then (if a1 < (a0.size : Int) then (if (bt a0 a1) = 48 then ((trestleref02_isDigit.f a0 (wrap64 (a1 + 1))).bind fun t105 => (trestleref02_Number0.j0 k a0 a1 t105)) else (trestleref02_Number0.j0 k a0 a1 false)) else (none)) else (none)) else (trestleref02_Number0.j0 k a0 a1 true))
set_option maxHeartbeats 8000000 in
set_option maxRecDepth 100000 in
theorem trestleref02_Number0.calls (k : Nat) (a0 : ByteArray) (a1 : Int) (r1 : Int) (r2 : Int) (r3 : Bool) (w : World) (h : trestleref02_Number0.f k a0 a1 = some (r1,r2,r3)) :
    Calls Tryd.prog 83 #[.string a0,.int .i64 a1] w fun e w' => e = .returned (.tuple #[.int .i64 r1,.int .i64 r2,.bool r3]) ∧ Drawn0 w w':=by
  have H : ((trestleref02_isDigit.f a0 a1).bind fun t104 => (if t104 = true then (if 0 ≤ a1 then (if a1 < (a0.size : Int) then (if (bt a0 a1) = 48 then ((trestleref02_isDigit.f a0 (wrap64 (a1 + 1))).bind fun t105 => (trestleref02_Number0.j0 k a0 a1 t105)) else (trestleref02_Number0.j0 k a0 a1 false)) else (none)) else (none)) else (trestleref02_Number0.j0 k a0 a1 true))) = some (r1,r2,r3):=h
  clear h
  have HC3:=Aside0.mk H
  clear H
  go_enter Tryd.func83,Tryd.ntmps83
  go_upto_region 1 with (fail)
  go_cut [24] (fun v24 wc => ∃ (kq : Nat) (x24_2 : Bool),v24 = .bool x24_2 ∧ Aside0 (trestleref02_Number0.j0 kq a0 a1 x24_2 = some (r1,r2,r3)) ∧ Aside0 (kq ≤ k) ∧ Drawn0 w wc)
  case first =>
    have H:=HC3.out
    clear HC3
    replace H:=Option.bind_eq_some_iff.mp H
    obtain ⟨t104,A40,H⟩:=H
    replace H : (if t104 = true then (if 0 ≤ a1 then (if a1 < (a0.size : Int) then (if (bt a0 a1) = 48 then ((trestleref02_isDigit.f a0 (wrap64 (a1 + 1))).bind fun t105 => (trestleref02_Number0.j0 k a0 a1 t105)) else (trestleref02_Number0.j0 k a0 a1 false)) else (none)) else (none)) else (trestleref02_Number0.j0 k a0 a1 true)) = some (r1,r2,r3):=H
    have A4:=Aside0.mk A40
    clear A40
    by_cases c5 : t104 = true
    · subst c5
      have H1 : (if 0 ≤ a1 then (if a1 < (a0.size : Int) then (if (bt a0 a1) = 48 then ((trestleref02_isDigit.f a0 (wrap64 (a1 + 1))).bind fun t105 => (trestleref02_Number0.j0 k a0 a1 t105)) else (trestleref02_Number0.j0 k a0 a1 false)) else (none)) else (none)) = some (r1,r2,r3):=by rw [if_pos rfl] at H;exact H
      clear H
      have H:=H1
      clear H1
      by_cases c6 : 0 ≤ a1
      · rw [if_pos c6] at H
        have c6b0 : decide (0 ≤ a1) = true:=decide_eq_true c6
        clear c6
        (first|rw [c6b0]|(simp only [i64_w,i32_w];rw [c6b0])|skip)
        by_cases c7 : a1 < (a0.size : Int)
        · rw [if_pos c7] at H
          have c7b0 : decide (a1 < (a0.size : Int)) = true:=decide_eq_true c7
          clear c7
          by_cases c9 : (bt a0 a1) = 48
          · rw [if_pos c9] at H
            have c9b0 : ((bt a0 a1) == 48) = true:=beq_iff_eq.mpr c9
            have c9b1 : ((bt a0 a1) != 48) = false:=bne_eq_false_iff_eq.mpr c9
            clear c9
            replace H:=Option.bind_eq_some_iff.mp H
            obtain ⟨t105,A100,H⟩:=H
            replace H : (trestleref02_Number0.j0 k a0 a1 t105) = some (r1,r2,r3):=H
            have A10:=Aside0.mk A100
            clear A100
            have H':=Aside0.mk H
            clear H
            go_wp2_with (first|((with_reducible refine gate_callee (f:=102) rfl ?_);refine goesL_ (some 11) rfl rfl Tryd.func102 (by kernel_rfl) rfl #[.string a0,.int .i64 a1] rfl (by (try simp only [List.map_toArray,List.map_cons,List.map_nil]);first|done|rfl|(simp only [List.length_drop,List.length_take];rfl)) ?_;(with_reducible refine (trestleref02_isDigit.calls a0 a1 true _ A4.out).mono ?_);rintro e w' ⟨rfl,⟨nd,rfl⟩⟩;refine ⟨_,rfl,?_⟩;have p8 : 0 ≤ (a1 : Int):=of_decide_eq_true (by first|(with_reducible assumption)|assumption);have q8 : a1 < (a0.size : Int):=of_decide_eq_true (by first|(with_reducible assumption)|assumption);have hx8:=bt_at a0 a1;replace p8:=eq_true p8;replace q8:=eq_true q8)|(go_at_call 102;(with_reducible refine (trestleref02_isDigit.calls a0 (wrap64 (a1 + 1)) t105 _ A10.out).mono ?_);rintro e w' ⟨rfl,⟨nd,rfl⟩⟩))
            go_meet
            case rel => exact ⟨_,(t105),(by first|rfl|(simp;done)|(simp [*];done)),H',⟨by first|omega|exact Nat.le_refl _⟩,by repeat (first|exact Drawn0.refl _|apply Drawn0.step)⟩
          · rw [if_neg c9] at H
            have c9b0 : ((bt a0 a1) == 48) = false:=beq_eq_false_iff_ne.mpr c9
            have c9b1 : ((bt a0 a1) != 48) = true:=bne_iff_ne.mpr c9
            have H':=Aside0.mk H
            clear H
            go_wp2_with (first|((with_reducible refine gate_callee (f:=102) rfl ?_);refine goesL_ (some 11) rfl rfl Tryd.func102 (by kernel_rfl) rfl #[.string a0,.int .i64 a1] rfl (by (try simp only [List.map_toArray,List.map_cons,List.map_nil]);first|done|rfl|(simp only [List.length_drop,List.length_take];rfl)) ?_;(with_reducible refine (trestleref02_isDigit.calls a0 a1 true _ A4.out).mono ?_);rintro e w' ⟨rfl,⟨nd,rfl⟩⟩;refine ⟨_,rfl,?_⟩;have p8 : 0 ≤ (a1 : Int):=of_decide_eq_true (by first|(with_reducible assumption)|assumption);have q8 : a1 < (a0.size : Int):=of_decide_eq_true (by first|(with_reducible assumption)|assumption);have hx8:=bt_at a0 a1;replace p8:=eq_true p8;replace q8:=eq_true q8))
            go_meet
            case rel => exact ⟨_,(false),(by first|rfl|(simp;done)|(simp [*];done)),H',⟨by first|omega|exact Nat.le_refl _⟩,by repeat (first|exact Drawn0.refl _|apply Drawn0.step)⟩
        · rw [if_neg c7] at H
          exact absurd H (by simp)
      · rw [if_neg c6] at H
        exact absurd H (by simp)
    · replace c5:=Bool.eq_false_iff.mpr c5
      subst c5
      have H1 : (trestleref02_Number0.j0 k a0 a1 true) = some (r1,r2,r3):=by rw [if_neg (show ¬ (false = true) by decide)] at H;exact H
      clear H
      have H:=H1
      clear H1
      have H':=Aside0.mk H
      clear H
      go_wp2_with (first|((with_reducible refine gate_callee (f:=102) rfl ?_);refine goesL_ (some 11) rfl rfl Tryd.func102 (by kernel_rfl) rfl #[.string a0,.int .i64 a1] rfl (by (try simp only [List.map_toArray,List.map_cons,List.map_nil]);first|done|rfl|(simp only [List.length_drop,List.length_take];rfl)) ?_;(with_reducible refine (trestleref02_isDigit.calls a0 a1 false _ A4.out).mono ?_);rintro e w' ⟨rfl,⟨nd,rfl⟩⟩;refine ⟨_,rfl,?_⟩))
      go_meet
      case rel => exact ⟨_,(true),(by first|rfl|(simp;done)|(simp [*];done)),H',⟨by first|omega|exact Nat.le_refl _⟩,by repeat (first|exact Drawn0.refl _|apply Drawn0.step)⟩
  case rest =>
    clear HC3
    try clear c1
    try clear p2
    try clear c5
    try clear c6
    try clear c6b0
    try clear p6
    try clear c7
    try clear c7b0
    try clear c8
    try clear p8
    try clear q8
    try clear hx8
    try clear c9
    try clear c9b0
    try clear c9b1
    try clear c10
    try clear p8
    try clear q8
    obtain ⟨kq,x24_2,rfl,HA,HJ2,⟨mc2,rfl⟩⟩:=hcut
    cases kq with
    | zero => exact absurd HA.out (by simp [trestleref02_Number0.j0])
    | succ kj2 =>
      have H:=HA.out
      clear HA
      simp only [trestleref02_Number0.j0] at H
      by_cases c11 : x24_2 = true
      · subst c11
        have H1 : (some (0,0,false)) = some (r1,r2,r3):=by rw [if_pos rfl] at H;exact H
        clear H
        have H:=H1
        clear H1
        simp only [Option.some.injEq,Prod.mk.injEq] at H
        obtain ⟨rfl,rfl,rfl⟩:=H
        go_wp2
        go_ret3
        exact ⟨by first|rfl|(simp;done)|(simp [*];done),by repeat (first|exact Drawn0.refl _|apply Drawn0.step)⟩
      · replace c11:=Bool.eq_false_iff.mpr c11
        subst c11
        have H1 : (trestleref02_Number0.l0 kj2 a0 0 a1) = some (r1,r2,r3):=by rw [if_neg (show ¬ (false = true) by decide)] at H;exact H
        clear H
        have H:=H1
        clear H1
        have H':=Aside0.mk H
        clear H
        go_wp2
        (try simp only [Act.put,List.setIfInBounds_toArray,List.set_cons_zero,List.set_cons_succ])
        go_loopg [7,8] kj2 (fun kq v7 v8 w' => ∃ (x7_2 : Int) (x8_2 : Int),v7 = .int .i64 x7_2 ∧ v8 = .int .i64 x8_2 ∧ Aside0 (trestleref02_Number0.l0 kq a0 x7_2 x8_2 = some (r1,r2,r3)) ∧ Aside0 (kq ≤ kj2) ∧ Drawn0 w w')
        case atStart => exact ⟨(0),(a1),(by first|rfl|(simp;done)|(simp [*];done)),(by first|rfl|(simp;done)|(simp [*];done)),H',⟨Nat.le_refl _⟩,by repeat (first|exact Drawn0.refl _|apply Drawn0.step)⟩
        case round =>
          clear H'
          try clear c1
          try clear c2
          try clear p2
          try clear c5
          try clear c6
          try clear c6b0
          try clear p6
          try clear c7
          try clear c7b0
          try clear c8
          try clear p8
          try clear q8
          try clear hx8
          try clear c9
          try clear c9b0
          try clear c9b1
          try clear c10
          try clear c11
          try clear p2
          try clear p6
          try clear p8
          try clear q8
          obtain ⟨x7_2,x8_2,rfl,rfl,HA,HK2,⟨m2,rfl⟩⟩:=hrel
          cases gk with
          | zero => exact absurd HA.out (by simp [trestleref02_Number0.l0])
          | succ k2 =>
            have H:=HA.out
            clear HA
            simp only [trestleref02_Number0.l0] at H
            replace H:=Option.bind_eq_some_iff.mp H
            obtain ⟨t106,A120,H⟩:=H
            replace H : (if t106 = true then (if 0 ≤ x8_2 then (if x8_2 < (a0.size : Int) then (if (wrap64 ((wrap64 (x7_2 * 10)) + (((bt a0 x8_2) - 48) % 256))) > 2147483647 then (some (0,0,false)) else (trestleref02_Number0.l0 k2 a0 (wrap64 ((wrap64 (x7_2 * 10)) + (((bt a0 x8_2) - 48) % 256))) (wrap64 (x8_2 + 1)))) else (none)) else (none)) else (some (x7_2,x8_2,true))) = some (r1,r2,r3):=H
            have A12:=Aside0.mk A120
            clear A120
            by_cases c13 : t106 = true
            · subst c13
              have H1 : (if 0 ≤ x8_2 then (if x8_2 < (a0.size : Int) then (if (wrap64 ((wrap64 (x7_2 * 10)) + (((bt a0 x8_2) - 48) % 256))) > 2147483647 then (some (0,0,false)) else (trestleref02_Number0.l0 k2 a0 (wrap64 ((wrap64 (x7_2 * 10)) + (((bt a0 x8_2) - 48) % 256))) (wrap64 (x8_2 + 1)))) else (none)) else (none)) = some (r1,r2,r3):=by rw [if_pos rfl] at H;exact H
              clear H
              have H:=H1
              clear H1
              by_cases c14 : 0 ≤ x8_2
              · rw [if_pos c14] at H
                have c14b0 : decide (0 ≤ x8_2) = true:=decide_eq_true c14
                clear c14
                by_cases c15 : x8_2 < (a0.size : Int)
                · rw [if_pos c15] at H
                  have c15b0 : decide (x8_2 < (a0.size : Int)) = true:=decide_eq_true c15
                  clear c15
                  by_cases c17 : (wrap64 ((wrap64 (x7_2 * 10)) + (((bt a0 x8_2) - 48) % 256))) > 2147483647
                  · rw [if_pos c17] at H
                    have c17b0 : decide (2147483647 < (wrap64 ((wrap64 (x7_2 * 10)) + (((bt a0 x8_2) - 48) % 256)))) = true:=decide_eq_true c17
                    clear c17
                    simp only [Option.some.injEq,Prod.mk.injEq] at H
                    obtain ⟨rfl,rfl,rfl⟩:=H
                    go_wp2_with (first|((with_reducible refine gate_callee (f:=102) rfl ?_);refine goesL_ (some 28) rfl rfl Tryd.func102 (by kernel_rfl) rfl #[.string a0,.int .i64 x8_2] rfl (by (try simp only [List.map_toArray,List.map_cons,List.map_nil]);first|done|rfl|(simp only [List.length_drop,List.length_take];rfl)) ?_;(with_reducible refine (trestleref02_isDigit.calls a0 x8_2 true _ A12.out).mono ?_);rintro e w' ⟨rfl,⟨nd,rfl⟩⟩;refine ⟨_,rfl,?_⟩;have p16 : 0 ≤ (x8_2 : Int):=of_decide_eq_true (by first|(with_reducible assumption)|assumption);have q16 : x8_2 < (a0.size : Int):=of_decide_eq_true (by first|(with_reducible assumption)|assumption);have hx16:=bt_at a0 x8_2;replace p16:=eq_true p16;replace q16:=eq_true q16))
                    go_ret3
                    exact ⟨by first|rfl|(simp;done)|(simp [*];done),by repeat (first|exact Drawn0.refl _|apply Drawn0.step)⟩
                  · rw [if_neg c17] at H
                    have c17b0 : decide (2147483647 < (wrap64 ((wrap64 (x7_2 * 10)) + (((bt a0 x8_2) - 48) % 256)))) = false:=decide_eq_false c17
                    clear c17
                    have H':=Aside0.mk H
                    clear H
                    go_wp2_with (first|((with_reducible refine gate_callee (f:=102) rfl ?_);refine goesL_ (some 28) rfl rfl Tryd.func102 (by kernel_rfl) rfl #[.string a0,.int .i64 x8_2] rfl (by (try simp only [List.map_toArray,List.map_cons,List.map_nil]);first|done|rfl|(simp only [List.length_drop,List.length_take];rfl)) ?_;(with_reducible refine (trestleref02_isDigit.calls a0 x8_2 true _ A12.out).mono ?_);rintro e w' ⟨rfl,⟨nd,rfl⟩⟩;refine ⟨_,rfl,?_⟩;have p16 : 0 ≤ (x8_2 : Int):=of_decide_eq_true (by first|(with_reducible assumption)|assumption);have q16 : x8_2 < (a0.size : Int):=of_decide_eq_true (by first|(with_reducible assumption)|assumption);have hx16:=bt_at a0 x8_2;replace p16:=eq_true p16;replace q16:=eq_true q16))
                    go_roundg k2
                    case measure => have:=HJ2.out;have:=HK2.out;omega
                    case rel => exact ⟨(wrap64 ((wrap64 (x7_2 * 10)) + (((bt a0 x8_2) - 48) % 256))),(wrap64 (x8_2 + 1)),(by first|rfl|(simp;done)|(simp [*];done)),(by first|rfl|(simp;done)|(simp [*];done)),H',⟨by have:=HJ2.out;have:=HK2.out;omega⟩,by repeat (first|exact Drawn0.refl _|apply Drawn0.step)⟩
                · rw [if_neg c15] at H
                  exact absurd H (by simp)
              · rw [if_neg c14] at H
                exact absurd H (by simp)
            · replace c13:=Bool.eq_false_iff.mpr c13
              subst c13
              have H1 : (some (x7_2,x8_2,true)) = some (r1,r2,r3):=by rw [if_neg (show ¬ (false = true) by decide)] at H;exact H
              clear H
              have H:=H1
              clear H1
              simp only [Option.some.injEq,Prod.mk.injEq] at H
              obtain ⟨rfl,rfl,rfl⟩:=H
              go_wp2_with (first|((with_reducible refine gate_callee (f:=102) rfl ?_);refine goesL_ (some 28) rfl rfl Tryd.func102 (by kernel_rfl) rfl #[.string a0,.int .i64 x8_2] rfl (by (try simp only [List.map_toArray,List.map_cons,List.map_nil]);first|done|rfl|(simp only [List.length_drop,List.length_take];rfl)) ?_;(with_reducible refine (trestleref02_isDigit.calls a0 x8_2 false _ A12.out).mono ?_);rintro e w' ⟨rfl,⟨nd,rfl⟩⟩;refine ⟨_,rfl,?_⟩))
              go_ret3
              exact ⟨by first|rfl|(simp;done)|(simp [*];done),by repeat (first|exact Drawn0.refl _|apply Drawn0.step)⟩
end Go.Proofs.YtojepjkpnponoaaDoor.Asc

