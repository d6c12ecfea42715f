import Derived.Test.YtojepjkpnponoaaDoorKStim0
import Derived.Test.YtojepjkpnponoaaDoorKStim2
import Derived.Test.YtojepjkpnponoaaDoorKGV
namespace Go.Proofs.YtojepjkpnponoaaDoor.Stim
open Go.RowKit Go.Proofs.YtojepjkpnponoaaDoorW.PrintWords Go.Proofs.YtojepjkpnponoaaDoorW.PrintLast Go.Proofs.YtojepjkpnponoaaDoorW.PrintMore
attribute [local go_sem] max2_int min2_int max_two min_two max_three min_three max_four min_four
set_option linter.unusedVariables false
set_option linter.unusedSimpArgs false
attribute [local go_sem high] eqA83
mutual
def r12_props.l0 : Nat → List (S83) → Int → Option (Int)
 |0,_,_ => none
 |k + 1,x0,x3 => if x3 < (x0.length : Int) then (if 0 ≤ x3 then (if ((rd_T83 x0 x3).f0) = 98 then (if ((rd_T83 x0 x3).f1) < 0 then (r12_props.j1 k x0 x3 true ((rd_T83 x0 x3).f0) ((rd_T83 x0 x3).f1)) else (r12_props.j1 k x0 x3 (decide (((rd_T83 x0 x3).f1) ≥ 16384)) ((rd_T83 x0 x3).f0) ((rd_T83 x0 x3).f1))) else (if ((rd_T83 x0 x3).f0) = 106 then (if ((rd_T83 x0 x3).f1) < 0 then (r12_props.j1 k x0 x3 true ((rd_T83 x0 x3).f0) ((rd_T83 x0 x3).f1)) else (r12_props.j1 k x0 x3 (decide (((rd_T83 x0 x3).f1) ≥ 16384)) ((rd_T83 x0 x3).f0) ((rd_T83 x0 x3).f1))) else (r12_props.j1 k x0 x3 true ((rd_T83 x0 x3).f0) ((rd_T83 x0 x3).f1)))) else (none)) else (some 0)
def r12_props.j1 : Nat → List (S83) → Int → Bool → Int → Int → Option (Int)
 |0,_,_,_,_,_ => none
 |k + 1,x0,x3,x39,x245000,x245001 => if x39 = true then (some 121) else (r12_props.l1 k x0 x3 0 x245000 x245001)
def r12_props.l1 : Nat → List (S83) → Int → Int → Int → Int → Option (Int)
 |0,_,_,_,_,_ => none
 |k + 1,x0,x3,x5,x245000,x245001 => if x5 < x3 then (if 0 ≤ x5 then (if x5 < (x0.length : Int) then (if (((rd_T83 x0 x5).f0) == x245000 && (((rd_T83 x0 x5).f1) == x245001)) = true then (some 121) else (r12_props.l1 k x0 x3 (wrap64 (x5 + 1)) x245000 x245001)) else (none)) else (none)) else (r12_props.l0 k x0 (wrap64 (x3 + 1)))
end
def r12_props.f (k : Nat) (l0 : List (S83)) : Option (Int):=if (l0.length : Int) > 16384 then (some 2) else (if (l0.length : Int) = 0 then (some 121) else (r12_props.l0 k l0 0))
theorem r12_props.mono_l : ∀ k,(∀ y0 y1,LeO (r12_props.l0 k y0 y1) (r12_props.l0 (k + 1) y0 y1)) ∧ (∀ y0 y1 y2 y3 y4,LeO (r12_props.j1 k y0 y1 y2 y3 y4) (r12_props.j1 (k + 1) y0 y1 y2 y3 y4)) ∧ (∀ y0 y1 y2 y3 y4,LeO (r12_props.l1 k y0 y1 y2 y3 y4) (r12_props.l1 (k + 1) y0 y1 y2 y3 y4))
 |0 => ⟨fun _ _ r h => by simp [r12_props.l0] at h,fun _ _ _ _ _ r h => by simp [r12_props.j1] at h,fun _ _ _ _ _ r h => by simp [r12_props.l1] at h⟩
 |k + 1 => by
  obtain ⟨ih0,ih1,ih2⟩:=r12_props.mono_l k
  refine ⟨?_,?_,?_⟩
  ·intro y0 y1
   unfold r12_props.l0
   repeat' first
   |(with_reducible exact ih0 _ _)
   |(with_reducible exact ih1 _ _ _ _ _)
   |(with_reducible exact ih2 _ _ _ _ _)
   |(with_reducible exact LeO.refl _)
   |(with_reducible exact LeO.none _)
   |(with_reducible refine LeO.ite ?_ ?_)
   |(with_reducible refine LeO.bind ?_ (fun _ => ?_))
   |exact ih0 _ _
   |exact ih1 _ _ _ _ _
   |exact ih2 _ _ _ _ _
   |exact LeO.none _
   |refine LeO.ite ?_ ?_
   |refine LeO.bind ?_ (fun _ => ?_)
  ·intro y0 y1 y2 y3 y4
   unfold r12_props.j1
   repeat' first
   |(with_reducible exact ih0 _ _)
   |(with_reducible exact ih1 _ _ _ _ _)
   |(with_reducible exact ih2 _ _ _ _ _)
   |(with_reducible exact LeO.refl _)
   |(with_reducible exact LeO.none _)
   |(with_reducible refine LeO.ite ?_ ?_)
   |(with_reducible refine LeO.bind ?_ (fun _ => ?_))
   |exact ih0 _ _
   |exact ih1 _ _ _ _ _
   |exact ih2 _ _ _ _ _
   |exact LeO.none _
   |refine LeO.ite ?_ ?_
   |refine LeO.bind ?_ (fun _ => ?_)
  ·intro y0 y1 y2 y3 y4
   unfold r12_props.l1
   repeat' first
   |(with_reducible exact ih0 _ _)
   |(with_reducible exact ih1 _ _ _ _ _)
   |(with_reducible exact ih2 _ _ _ _ _)
   |(with_reducible exact LeO.refl _)
   |(with_reducible exact LeO.none _)
   |(with_reducible refine LeO.ite ?_ ?_)
   |(with_reducible refine LeO.bind ?_ (fun _ => ?_))
   |exact ih0 _ _
   |exact ih1 _ _ _ _ _
   |exact ih2 _ _ _ _ _
   |exact LeO.none _
   |refine LeO.ite ?_ ?_
   |refine LeO.bind ?_ (fun _ => ?_)
theorem r12_props.mono : ∀ a0 k,LeO (r12_props.f k a0) (r12_props.f (k + 1) a0):=by
 intro a0 k
 obtain ⟨ih0,ih1,ih2⟩:=r12_props.mono_l k
 unfold r12_props.f
 repeat' first
   |(with_reducible exact ih0 _ _)
   |(with_reducible exact ih1 _ _ _ _ _)
   |(with_reducible exact ih2 _ _ _ _ _)
   |(with_reducible exact LeO.refl _)
   |(with_reducible exact LeO.none _)
   |(with_reducible refine LeO.ite ?_ ?_)
   |(with_reducible refine LeO.bind ?_ (fun _ => ?_))
   |exact ih0 _ _
   |exact ih1 _ _ _ _ _
   |exact ih2 _ _ _ _ _
   |exact LeO.none _
   |refine LeO.ite ?_ ?_
   |refine LeO.bind ?_ (fun _ => ?_)
set_option maxHeartbeats 8000000 in
set_option maxRecDepth 100000 in
theorem r12_props.calls (k : Nat) (A0 : Option Addr) (c0 : Nat) (l0 : List (S83)) (r : Int) (w : World) (hr0 : Kd.C k83 w A0 l0.length l0) (hc0 : l0.length ≤ c0) (h : r12_props.f k l0 = some r) :
  Calls Tryd.prog 43 #[.slice A0 l0.length c0] w fun e w' => e = .returned (.int .i64 r) ∧ Below w.heap.size w w':=by
 have hu83:=Tryd.underlying83
 have HR0:=A0_.mk hr0
 have HC0:=A0_.mk hc0
 clear hr0 hc0
 have HB:=A0_.mk (Below.refl w.heap.size w)
 have H : (if (l0.length : Int) > 16384 then (some 2) else (if (l0.length : Int) = 0 then (some 121) else (r12_props.l0 k l0 0))) = some r:=h
 clear h
 by_cases c2 : (l0.length : Int) > 16384
 ·rw [if_pos c2] at H
  have c2b0 : decide (16384 < (l0.length : Int)) = true:=decide_eq_true c2
  have c2b1 : decide (16384 < l0.length) = true:=decide_eq_true (by omega)
  have c2b2 : 16384 < l0.length:=by omega
  clear c2
  obtain rfl:=Option.some.inj H
  go_enter Tryd.func43,Tryd.ntmps43
  go_wp2
  repeat (go_quiet (fail);try go_wp2)
  go_ret
  exact ⟨by first|rfl|(simp [errW_none,errW_some] <;> rfl)|(simp [*,errW_none,errW_some] <;> rfl),by repeat (first|(with_reducible first|exact HB.out|apply eA_|apply eN_|apply eD_)|exact HB.out)⟩
 ·rw [if_neg c2] at H
  have c2b0 : decide (16384 < (l0.length : Int)) = false:=decide_eq_false c2
  have c2b1 : decide (16384 < l0.length) = false:=decide_eq_false (by omega)
  have c2b2 : ¬ (16384 < l0.length):=by omega
  clear c2
  by_cases c3 : (l0.length : Int) = 0
  ·rw [if_pos c3] at H
   have c3b0 : ((l0.length : Int) == 0) = true:=beq_iff_eq.mpr c3
   have c3b1 : ((l0.length : Int) != 0) = false:=bne_eq_false_iff_eq.mpr c3
   clear c3
   obtain rfl:=Option.some.inj H
   go_enter Tryd.func43,Tryd.ntmps43
   go_wp2
   repeat (go_quiet (fail);try go_wp2)
   go_ret
   exact ⟨by first|rfl|(simp [errW_none,errW_some] <;> rfl)|(simp [*,errW_none,errW_some] <;> rfl),by repeat (first|(with_reducible first|exact HB.out|apply eA_|apply eN_|apply eD_)|exact HB.out)⟩
  ·rw [if_neg c3] at H
   have c3b0 : ((l0.length : Int) == 0) = false:=beq_eq_false_iff_ne.mpr c3
   have c3b1 : ((l0.length : Int) != 0) = true:=bne_iff_ne.mpr c3
   have c3b2 : ¬ (l0 = []):=fun h_ => c3 (by rw [h_];rfl)
   have H':=A0_.mk H
   clear H
   go_enter Tryd.func43,Tryd.ntmps43
   go_wp2
   repeat (go_quiet (fail);try go_wp2)
   (try simp only [Act.put,List.setIfInBounds_toArray,List.set_cons_zero,List.set_cons_succ])
   go_loopg [3] k (fun kq v3 w' => ∃ (x3_1 : Int),v3 = .int .i64 x3_1 ∧ A0_ (r12_props.l0 kq l0 x3_1 = some r) ∧ A0_ (kq ≤ k) ∧ A0_ (Below w.heap.size w w'))
   case atStart => exact ⟨(0),(by first|rfl|(simp;done)|(simp [*];done)),H',⟨Nat.le_refl _⟩,⟨by repeat (first|(with_reducible first|exact HB.out|apply eA_|apply eN_|apply eD_)|exact HB.out)⟩⟩
   case round =>
    clear H'
    try clear c2
    try clear c2b0
    try clear c2b1
    try clear c2b2
    try clear p2
    try clear c3
    try clear c3b0
    try clear c3b1
    try clear c3b2
    obtain ⟨x3_1,rfl,HA,HK1,HB⟩:=hrel
    cases gk with
    |zero => exact absurd HA.out (by simp [r12_props.l0])
    |succ k1 =>
     have H:=HA.out
     clear HA
     simp only [r12_props.l0] at H
     by_cases c4 : x3_1 < (l0.length : Int)
     ·rw [if_pos c4] at H
      have c4b0 : decide (x3_1 < (l0.length : Int)) = true:=decide_eq_true c4
      clear c4
      by_cases c5 : 0 ≤ x3_1
      ·rw [if_pos c5] at H
       have c5b0 : decide (0 ≤ x3_1) = true:=decide_eq_true c5
       clear c5
       have HC6:=A0_.mk H
       clear H
       have p243 : 0 ≤ (x3_1 : Int):=of_decide_eq_true (by first|(with_reducible assumption)|assumption)
       have q243 : x3_1 < (l0.length : Int):=of_decide_eq_true (by first|(with_reducible assumption)|assumption)
       obtain ⟨ad243,e243,hx243_0,hx243_1⟩:=at_T83 HR0.out x3_1 p243 q243
       cases e243
       replace hx243_0:=(HB.out.cell (World.block_lt_of_cell? w _ hx243_0)).trans hx243_0
       replace hx243_1:=(HB.out.cell (World.block_lt_of_cell? w _ hx243_1)).trans hx243_1
       replace p243:=eq_true p243
       replace q243:=eq_true q243
       go_upto_region 9 with (first|((with_reducible refine gate_dst (N:=4) rfl ?_);refine box_event ?hg (N:=4) ?hd (cs:=#[.int .u8 0,.int .i64 0]) (t:=83) ?hr ?_;(case hd => rfl);(case hg => rfl);(case hr => first|(go_simp;done)|(go_simp;rfl));intro gb244 hg w7 hbox hb;have n0_:=A0_.mk (below_step (by repeat (first|(with_reducible first|exact HB.out|apply eA_|apply eN_|apply eD_)|exact HB.out)) hb);have n1_:=A0_.mk (hbox);have n2_:=A0_.mk ((by rw [hg];exact (below_size (by repeat (first|(with_reducible first|exact HB.out|apply eA_|apply eN_|apply eD_)|exact HB.out))) : w.heap.size ≤ gb244));have n3_:=A0_.mk ((by rw [hg];exact (below_size (by repeat (first|(with_reducible first|exact HB.out|apply eA_|apply eN_|apply eD_)|exact HB.out))) : w.heap.size ≤ gb244));clear HB;have HB:=n0_;have BK244:=n1_;have GW244:=n2_;have GE244:=n3_;clear n0_ n1_ n2_ n3_;clear hb hbox hg;have hcz8_0 : w7.cell? ⟨gb244,0,none⟩ = some (.int .u8 0):=(bC_ BK244.out 0).trans rfl;have hcz8_1 : w7.cell? ⟨gb244,1,none⟩ = some (.int .i64 0):=(bC_ BK244.out 1).trans rfl;have hfz8_0:=bF_ BK244.out 0;have hfz8_1:=bF_ BK244.out 1))
       repeat (go_quiet (first|((with_reducible refine gate_dst (N:=4) rfl ?_);refine box_event ?hg (N:=4) ?hd (cs:=#[.int .u8 0,.int .i64 0]) (t:=83) ?hr ?_;(case hd => rfl);(case hg => rfl);(case hr => first|(go_simp;done)|(go_simp;rfl));intro gb244 hg w7 hbox hb;have n0_:=A0_.mk (below_step (by repeat (first|(with_reducible first|exact HB.out|apply eA_|apply eN_|apply eD_)|exact HB.out)) hb);have n1_:=A0_.mk (hbox);have n2_:=A0_.mk ((by rw [hg];exact (below_size (by repeat (first|(with_reducible first|exact HB.out|apply eA_|apply eN_|apply eD_)|exact HB.out))) : w.heap.size ≤ gb244));have n3_:=A0_.mk ((by rw [hg];exact (below_size (by repeat (first|(with_reducible first|exact HB.out|apply eA_|apply eN_|apply eD_)|exact HB.out))) : w.heap.size ≤ gb244));clear HB;have HB:=n0_;have BK244:=n1_;have GW244:=n2_;have GE244:=n3_;clear n0_ n1_ n2_ n3_;clear hb hbox hg;have hcz8_0 : w7.cell? ⟨gb244,0,none⟩ = some (.int .u8 0):=(bC_ BK244.out 0).trans rfl;have hcz8_1 : w7.cell? ⟨gb244,1,none⟩ = some (.int .i64 0):=(bC_ BK244.out 1).trans rfl;have hfz8_0:=bF_ BK244.out 0;have hfz8_1:=bF_ BK244.out 1));go_upto_region 9 with (first|((with_reducible refine gate_dst (N:=4) rfl ?_);refine box_event ?hg (N:=4) ?hd (cs:=#[.int .u8 0,.int .i64 0]) (t:=83) ?hr ?_;(case hd => rfl);(case hg => rfl);(case hr => first|(go_simp;done)|(go_simp;rfl));intro gb244 hg w7 hbox hb;have n0_:=A0_.mk (below_step (by repeat (first|(with_reducible first|exact HB.out|apply eA_|apply eN_|apply eD_)|exact HB.out)) hb);have n1_:=A0_.mk (hbox);have n2_:=A0_.mk ((by rw [hg];exact (below_size (by repeat (first|(with_reducible first|exact HB.out|apply eA_|apply eN_|apply eD_)|exact HB.out))) : w.heap.size ≤ gb244));have n3_:=A0_.mk ((by rw [hg];exact (below_size (by repeat (first|(with_reducible first|exact HB.out|apply eA_|apply eN_|apply eD_)|exact HB.out))) : w.heap.size ≤ gb244));clear HB;have HB:=n0_;have BK244:=n1_;have GW244:=n2_;have GE244:=n3_;clear n0_ n1_ n2_ n3_;clear hb hbox hg;have hcz8_0 : w7.cell? ⟨gb244,0,none⟩ = some (.int .u8 0):=(bC_ BK244.out 0).trans rfl;have hcz8_1 : w7.cell? ⟨gb244,1,none⟩ = some (.int .i64 0):=(bC_ BK244.out 1).trans rfl;have hfz8_0:=bF_ BK244.out 0;have hfz8_1:=bF_ BK244.out 1)))
       (try simp only [Act.put,List.setIfInBounds_toArray,List.set_cons_zero,List.set_cons_succ])
       go_cut [39] (fun v39 wc => ∃ (kq : Nat) (x39_5 : Bool),v39 = .bool x39_5 ∧ A0_ (r12_props.j1 kq l0 x3_1 x39_5 ((rd_T83 l0 x3_1).f0) ((rd_T83 l0 x3_1).f1) = some r) ∧ A0_ (kq ≤ k1) ∧ A0_ (wc.heap[gb244]? = some (.cells #[.int .u8 ((rd_T83 l0 x3_1).f0),.int .i64 ((rd_T83 l0 x3_1).f1)] 83 (0,0))) ∧ A0_ (Below w.heap.size w wc))
       case first =>
        have H:=HC6.out
        clear HC6
        by_cases c9 : ((rd_T83 l0 x3_1).f0) = 98
        ·rw [if_pos c9] at H
         have c9b0 : (((rd_T83 l0 x3_1).f0) == 98) = true:=beq_iff_eq.mpr c9
         have c9b1 : (((rd_T83 l0 x3_1).f0) != 98) = false:=bne_eq_false_iff_eq.mpr c9
         clear c9
         (first|rw [c9b0]|(simp only [i64_w,i32_w];rw [c9b0])|skip)
         by_cases c10 : ((rd_T83 l0 x3_1).f1) < 0
         ·rw [if_pos c10] at H
          have c10b0 : decide (((rd_T83 l0 x3_1).f1) < 0) = true:=decide_eq_true c10
          clear c10
          have H':=A0_.mk H
          clear H
          have hcz11_0 : w7.cell? ⟨gb244,0,none⟩ = some (.int .u8 0):=(bC_ BK244.out 0).trans rfl
          have hcz11_1 : w7.cell? ⟨gb244,1,none⟩ = some (.int .i64 0):=(bC_ BK244.out 1).trans rfl
          have hfz11_0:=bF_ BK244.out 0
          have hfz11_1:=bF_ BK244.out 1
          go_wp2
          repeat (go_quiet (fail);try go_wp2)
          go_meet
          case rel => exact ⟨_,(true),(by first|rfl|(simp;done)|(simp [*];done)),H',⟨by have:=HK1.out;first|omega|exact Nat.le_refl _⟩,⟨by (with_reducible repeat (first|refine bN_ ?_ _|refine bD_ ?_|refine bA_ ?_ _));refine blk_put (cs:=#[.int .u8 ((rd_T83 l0 x3_1).f0),.int .i64 0]) ?_ 1 _ rfl;(with_reducible repeat (first|refine bN_ ?_ _|refine bD_ ?_|refine bA_ ?_ _));refine blk_put (cs:=#[.int .u8 0,.int .i64 0]) ?_ 0 _ rfl;(with_reducible repeat (first|refine bN_ ?_ _|refine bD_ ?_|refine bA_ ?_ _));exact BK244.out⟩,⟨by repeat (first|(with_reducible first|exact HB.out|apply eA_|apply eN_|apply eD_|refine eS_ ?_ GE244.out)|exact HB.out)⟩⟩
         ·rw [if_neg c10] at H
          have c10b0 : decide (((rd_T83 l0 x3_1).f1) < 0) = false:=decide_eq_false c10
          clear c10
          have H':=A0_.mk H
          clear H
          have hcz12_0 : w7.cell? ⟨gb244,0,none⟩ = some (.int .u8 0):=(bC_ BK244.out 0).trans rfl
          have hcz12_1 : w7.cell? ⟨gb244,1,none⟩ = some (.int .i64 0):=(bC_ BK244.out 1).trans rfl
          have hfz12_0:=bF_ BK244.out 0
          have hfz12_1:=bF_ BK244.out 1
          go_wp2
          repeat (go_quiet (fail);try go_wp2)
          go_meet
          case rel => exact ⟨_,(decide (((rd_T83 l0 x3_1).f1) ≥ 16384)),(by first|rfl|(simp;done)|(simp [*];done)),H',⟨by have:=HK1.out;first|omega|exact Nat.le_refl _⟩,⟨by (with_reducible repeat (first|refine bN_ ?_ _|refine bD_ ?_|refine bA_ ?_ _));refine blk_put (cs:=#[.int .u8 ((rd_T83 l0 x3_1).f0),.int .i64 0]) ?_ 1 _ rfl;(with_reducible repeat (first|refine bN_ ?_ _|refine bD_ ?_|refine bA_ ?_ _));refine blk_put (cs:=#[.int .u8 0,.int .i64 0]) ?_ 0 _ rfl;(with_reducible repeat (first|refine bN_ ?_ _|refine bD_ ?_|refine bA_ ?_ _));exact BK244.out⟩,⟨by repeat (first|(with_reducible first|exact HB.out|apply eA_|apply eN_|apply eD_|refine eS_ ?_ GE244.out)|exact HB.out)⟩⟩
        ·rw [if_neg c9] at H
         have c9b0 : (((rd_T83 l0 x3_1).f0) == 98) = false:=beq_eq_false_iff_ne.mpr c9
         have c9b1 : (((rd_T83 l0 x3_1).f0) != 98) = true:=bne_iff_ne.mpr c9
         (first|rw [c9b0]|(simp only [i64_w,i32_w];rw [c9b0])|skip)
         by_cases c13 : ((rd_T83 l0 x3_1).f0) = 106
         ·rw [if_pos c13] at H
          have c13b0 : (((rd_T83 l0 x3_1).f0) == 106) = true:=beq_iff_eq.mpr c13
          have c13b1 : (((rd_T83 l0 x3_1).f0) != 106) = false:=bne_eq_false_iff_eq.mpr c13
          clear c13
          by_cases c14 : ((rd_T83 l0 x3_1).f1) < 0
          ·rw [if_pos c14] at H
           have c14b0 : decide (((rd_T83 l0 x3_1).f1) < 0) = true:=decide_eq_true c14
           clear c14
           have H':=A0_.mk H
           clear H
           have hcz15_0 : w7.cell? ⟨gb244,0,none⟩ = some (.int .u8 0):=(bC_ BK244.out 0).trans rfl
           have hcz15_1 : w7.cell? ⟨gb244,1,none⟩ = some (.int .i64 0):=(bC_ BK244.out 1).trans rfl
           have hfz15_0:=bF_ BK244.out 0
           have hfz15_1:=bF_ BK244.out 1
           go_wp2
           repeat (go_quiet (fail);try go_wp2)
           go_meet
           case rel => exact ⟨_,(true),(by first|rfl|(simp;done)|(simp [*];done)),H',⟨by have:=HK1.out;first|omega|exact Nat.le_refl _⟩,⟨by (with_reducible repeat (first|refine bN_ ?_ _|refine bD_ ?_|refine bA_ ?_ _));refine blk_put (cs:=#[.int .u8 ((rd_T83 l0 x3_1).f0),.int .i64 0]) ?_ 1 _ rfl;(with_reducible repeat (first|refine bN_ ?_ _|refine bD_ ?_|refine bA_ ?_ _));refine blk_put (cs:=#[.int .u8 0,.int .i64 0]) ?_ 0 _ rfl;(with_reducible repeat (first|refine bN_ ?_ _|refine bD_ ?_|refine bA_ ?_ _));exact BK244.out⟩,⟨by repeat (first|(with_reducible first|exact HB.out|apply eA_|apply eN_|apply eD_|refine eS_ ?_ GE244.out)|exact HB.out)⟩⟩
          ·rw [if_neg c14] at H
           have c14b0 : decide (((rd_T83 l0 x3_1).f1) < 0) = false:=decide_eq_false c14
           clear c14
           have H':=A0_.mk H
           clear H
           have hcz16_0 : w7.cell? ⟨gb244,0,none⟩ = some (.int .u8 0):=(bC_ BK244.out 0).trans rfl
           have hcz16_1 : w7.cell? ⟨gb244,1,none⟩ = some (.int .i64 0):=(bC_ BK244.out 1).trans rfl
           have hfz16_0:=bF_ BK244.out 0
           have hfz16_1:=bF_ BK244.out 1
           go_wp2
           repeat (go_quiet (fail);try go_wp2)
           go_meet
           case rel => exact ⟨_,(decide (((rd_T83 l0 x3_1).f1) ≥ 16384)),(by first|rfl|(simp;done)|(simp [*];done)),H',⟨by have:=HK1.out;first|omega|exact Nat.le_refl _⟩,⟨by (with_reducible repeat (first|refine bN_ ?_ _|refine bD_ ?_|refine bA_ ?_ _));refine blk_put (cs:=#[.int .u8 ((rd_T83 l0 x3_1).f0),.int .i64 0]) ?_ 1 _ rfl;(with_reducible repeat (first|refine bN_ ?_ _|refine bD_ ?_|refine bA_ ?_ _));refine blk_put (cs:=#[.int .u8 0,.int .i64 0]) ?_ 0 _ rfl;(with_reducible repeat (first|refine bN_ ?_ _|refine bD_ ?_|refine bA_ ?_ _));exact BK244.out⟩,⟨by repeat (first|(with_reducible first|exact HB.out|apply eA_|apply eN_|apply eD_|refine eS_ ?_ GE244.out)|exact HB.out)⟩⟩
         ·rw [if_neg c13] at H
          have c13b0 : (((rd_T83 l0 x3_1).f0) == 106) = false:=beq_eq_false_iff_ne.mpr c13
          have c13b1 : (((rd_T83 l0 x3_1).f0) != 106) = true:=bne_iff_ne.mpr c13
          have H':=A0_.mk H
          clear H
          have hcz17_0 : w7.cell? ⟨gb244,0,none⟩ = some (.int .u8 0):=(bC_ BK244.out 0).trans rfl
          have hcz17_1 : w7.cell? ⟨gb244,1,none⟩ = some (.int .i64 0):=(bC_ BK244.out 1).trans rfl
          have hfz17_0:=bF_ BK244.out 0
          have hfz17_1:=bF_ BK244.out 1
          go_wp2
          repeat (go_quiet (fail);try go_wp2)
          go_meet
          case rel => exact ⟨_,(true),(by first|rfl|(simp;done)|(simp [*];done)),H',⟨by have:=HK1.out;first|omega|exact Nat.le_refl _⟩,⟨by (with_reducible repeat (first|refine bN_ ?_ _|refine bD_ ?_|refine bA_ ?_ _));refine blk_put (cs:=#[.int .u8 ((rd_T83 l0 x3_1).f0),.int .i64 0]) ?_ 1 _ rfl;(with_reducible repeat (first|refine bN_ ?_ _|refine bD_ ?_|refine bA_ ?_ _));refine blk_put (cs:=#[.int .u8 0,.int .i64 0]) ?_ 0 _ rfl;(with_reducible repeat (first|refine bN_ ?_ _|refine bD_ ?_|refine bA_ ?_ _));exact BK244.out⟩,⟨by repeat (first|(with_reducible first|exact HB.out|apply eA_|apply eN_|apply eD_|refine eS_ ?_ GE244.out)|exact HB.out)⟩⟩
       case rest =>
        clear HC6
        try clear c1
        try clear c2
        try clear c2b0
        try clear c2b1
        try clear c2b2
        try clear p2
        try clear q2
        try clear hx2
        try clear c3
        try clear c3b0
        try clear c3b1
        try clear c3b2
        try clear c4
        try clear c4b0
        try clear c5
        try clear c5b0
        try clear c9
        try clear c9b0
        try clear c9b1
        try clear c10
        try clear c10b0
        try clear c13
        try clear c13b0
        try clear c13b1
        try clear c14
        try clear c14b0
        try clear hcz11_0
        try clear hcz11_1
        try clear hcz12_0
        try clear hcz12_1
        try clear hcz15_0
        try clear hcz15_1
        try clear hcz16_0
        try clear hcz16_1
        try clear hcz17_0
        try clear hcz17_1
        try clear hcz8_0
        try clear hcz8_1
        try clear hfz11_0
        try clear hfz11_1
        try clear hfz12_0
        try clear hfz12_1
        try clear hfz15_0
        try clear hfz15_1
        try clear hfz16_0
        try clear hfz16_1
        try clear hfz17_0
        try clear hfz17_1
        try clear hfz8_0
        try clear hfz8_1
        try clear hx243_0
        try clear hx243_1
        try clear p2
        try clear p243
        try clear q243
        obtain ⟨kq,x39_5,rfl,HA,HJ5,BK244,HB⟩:=hcut
        cases kq with
        |zero => exact absurd HA.out (by simp [r12_props.j1])
        |succ kj5 =>
         have H:=HA.out
         clear HA
         simp only [r12_props.j1] at H
         by_cases c18 : x39_5 = true
         ·subst c18
          have H1 : (some 121) = some r:=by rw [if_pos rfl] at H;exact H
          clear H
          have H:=H1
          clear H1
          obtain rfl:=Option.some.inj H
          go_wp2
          repeat (go_quiet (fail);try go_wp2)
          go_ret
          exact ⟨by first|rfl|(simp [errW_none,errW_some] <;> rfl)|(simp [*,errW_none,errW_some] <;> rfl),by repeat (first|(with_reducible first|exact HB.out|apply eA_|apply eN_|apply eD_|refine eS_ ?_ GE244.out)|exact HB.out)⟩
         ·replace c18:=Bool.eq_false_iff.mpr c18
          subst c18
          have H1 : (r12_props.l1 kj5 l0 x3_1 0 ((rd_T83 l0 x3_1).f0) ((rd_T83 l0 x3_1).f1)) = some r:=by rw [if_neg (show ¬ (false = true) by decide)] at H;exact H
          clear H
          have H:=H1
          clear H1
          have H':=A0_.mk H
          clear H
          go_wp2
          repeat (go_quiet (fail);try go_wp2)
          (try simp only [Act.put,List.setIfInBounds_toArray,List.set_cons_zero,List.set_cons_succ])
          go_loopg [5] kj5 (fun kq v5 w' => ∃ (x5_3 : Int),v5 = .int .i64 x5_3 ∧ A0_ (r12_props.l1 kq l0 x3_1 x5_3 ((rd_T83 l0 x3_1).f0) ((rd_T83 l0 x3_1).f1) = some r) ∧ A0_ (kq ≤ kj5) ∧ A0_ (w'.heap[gb244]? = some (.cells #[.int .u8 ((rd_T83 l0 x3_1).f0),.int .i64 ((rd_T83 l0 x3_1).f1)] 83 (0,0))) ∧ A0_ (Below w.heap.size w w'))
          case atStart => exact ⟨(0),(by first|rfl|(simp;done)|(simp [*];done)),H',⟨Nat.le_refl _⟩,⟨by (with_reducible repeat (first|refine bN_ ?_ _|refine bD_ ?_|refine bA_ ?_ _));exact BK244.out⟩,⟨by repeat (first|(with_reducible first|exact HB.out|apply eA_|apply eN_|apply eD_|refine eS_ ?_ GE244.out)|exact HB.out)⟩⟩
          case round =>
           clear H'
           try clear c1
           try clear c2
           try clear c2b0
           try clear c2b1
           try clear c2b2
           try clear p2
           try clear q2
           try clear hx2
           try clear c3
           try clear c3b0
           try clear c3b1
           try clear c3b2
           try clear c4
           try clear c4b0
           try clear c5
           try clear c5b0
           try clear c9
           try clear c9b0
           try clear c9b1
           try clear c10
           try clear c10b0
           try clear c13
           try clear c13b0
           try clear c13b1
           try clear c14
           try clear c14b0
           try clear c18
           try clear hcz11_0
           try clear hcz11_1
           try clear hcz12_0
           try clear hcz12_1
           try clear hcz15_0
           try clear hcz15_1
           try clear hcz16_0
           try clear hcz16_1
           try clear hcz17_0
           try clear hcz17_1
           try clear hcz8_0
           try clear hcz8_1
           try clear hfz11_0
           try clear hfz11_1
           try clear hfz12_0
           try clear hfz12_1
           try clear hfz15_0
           try clear hfz15_1
           try clear hfz16_0
           try clear hfz16_1
           try clear hfz17_0
           try clear hfz17_1
           try clear hfz8_0
           try clear hfz8_1
           try clear hx243_0
           try clear hx243_1
           try clear p2
           try clear p243
           try clear q2
           try clear q243
           obtain ⟨x5_3,rfl,HA,HK3,BK244,HB⟩:=hrel
           cases gk with
           |zero => exact absurd HA.out (by simp [r12_props.l1])
           |succ k3 =>
            have H:=HA.out
            clear HA
            simp only [r12_props.l1] at H
            by_cases c19 : x5_3 < x3_1
            ·rw [if_pos c19] at H
             have c19b0 : decide (x5_3 < x3_1) = true:=decide_eq_true c19
             clear c19
             by_cases c20 : 0 ≤ x5_3
             ·rw [if_pos c20] at H
              have c20b0 : decide (0 ≤ x5_3) = true:=decide_eq_true c20
              clear c20
              by_cases c21 : x5_3 < (l0.length : Int)
              ·rw [if_pos c21] at H
               have c21b0 : decide (x5_3 < (l0.length : Int)) = true:=decide_eq_true c21
               clear c21
               by_cases c22 : (((rd_T83 l0 x5_3).f0) == ((rd_T83 l0 x3_1).f0) && (((rd_T83 l0 x5_3).f1) == ((rd_T83 l0 x3_1).f1))) = true
               ·rw [if_pos c22] at H
                have c22b0 : (((rd_T83 l0 x5_3).f0) == ((rd_T83 l0 x3_1).f0) && (((rd_T83 l0 x5_3).f1) == ((rd_T83 l0 x3_1).f1))) = true:=c22
                (try (have c22b1 : decide (((rd_T83 l0 x5_3).f0) = ((rd_T83 l0 x3_1).f0) && (((rd_T83 l0 x5_3).f1) == ((rd_T83 l0 x3_1).f1))) = true:=by simpa using c22))
                (try (have c22b2 : (((rd_T83 l0 x5_3).f0) == ((rd_T83 l0 x3_1).f0) && (((rd_T83 l0 x5_3).f1) == ((rd_T83 l0 x3_1).f1))) = true:=by simpa using c22))
                clear c22
                obtain rfl:=Option.some.inj H
                have p245 : 0 ≤ (x5_3 : Int):=of_decide_eq_true (by first|(with_reducible assumption)|assumption)
                have q245 : x5_3 < (l0.length : Int):=of_decide_eq_true (by first|(with_reducible assumption)|assumption)
                obtain ⟨ad245,e245,hx245_0,hx245_1⟩:=at_T83 HR0.out x5_3 p245 q245
                obtain rfl : ad243 = ad245:=(by injection e245)
                replace hx245_0:=(HB.out.cell (World.block_lt_of_cell? w _ hx245_0)).trans hx245_0
                replace hx245_1:=(HB.out.cell (World.block_lt_of_cell? w _ hx245_1)).trans hx245_1
                replace p245:=eq_true p245
                replace q245:=eq_true q245
                have hcz23_0 : wr.cell? ⟨gb244,0,none⟩ = some (.int .u8 ((rd_T83 l0 x3_1).f0)):=(bC_ BK244.out 0).trans rfl
                have hcz23_1 : wr.cell? ⟨gb244,1,none⟩ = some (.int .i64 ((rd_T83 l0 x3_1).f1)):=(bC_ BK244.out 1).trans rfl
                have hfz23_0:=bF_ BK244.out 0
                have hfz23_1:=bF_ BK244.out 1
                go_wp2
                repeat (go_quiet (fail);try go_wp2)
                go_ret
                exact ⟨by first|rfl|(simp [errW_none,errW_some] <;> rfl)|(simp [*,errW_none,errW_some] <;> rfl),by repeat (first|(with_reducible first|exact HB.out|apply eA_|apply eN_|apply eD_|refine eS_ ?_ GE244.out)|exact HB.out)⟩
               ·rw [if_neg c22] at H
                have c22b0 : (((rd_T83 l0 x5_3).f0) == ((rd_T83 l0 x3_1).f0) && (((rd_T83 l0 x5_3).f1) == ((rd_T83 l0 x3_1).f1))) = false:=by simpa using c22
                (try (have c22b1 : decide (((rd_T83 l0 x5_3).f0) = ((rd_T83 l0 x3_1).f0) && (((rd_T83 l0 x5_3).f1) == ((rd_T83 l0 x3_1).f1))) = false:=by simpa using c22))
                (try (have c22b2 : (((rd_T83 l0 x5_3).f0) == ((rd_T83 l0 x3_1).f0) && (((rd_T83 l0 x5_3).f1) == ((rd_T83 l0 x3_1).f1))) = false:=by simpa using c22))
                (try (have c22b3 : ¬ (((rd_T83 l0 x5_3).f0) = ((rd_T83 l0 x3_1).f0) && (((rd_T83 l0 x5_3).f1) == ((rd_T83 l0 x3_1).f1))):=by simpa using c22))
                clear c22
                have H':=A0_.mk H
                clear H
                have p245 : 0 ≤ (x5_3 : Int):=of_decide_eq_true (by first|(with_reducible assumption)|assumption)
                have q245 : x5_3 < (l0.length : Int):=of_decide_eq_true (by first|(with_reducible assumption)|assumption)
                obtain ⟨ad245,e245,hx245_0,hx245_1⟩:=at_T83 HR0.out x5_3 p245 q245
                obtain rfl : ad243 = ad245:=(by injection e245)
                replace hx245_0:=(HB.out.cell (World.block_lt_of_cell? w _ hx245_0)).trans hx245_0
                replace hx245_1:=(HB.out.cell (World.block_lt_of_cell? w _ hx245_1)).trans hx245_1
                replace p245:=eq_true p245
                replace q245:=eq_true q245
                have hcz24_0 : wr.cell? ⟨gb244,0,none⟩ = some (.int .u8 ((rd_T83 l0 x3_1).f0)):=(bC_ BK244.out 0).trans rfl
                have hcz24_1 : wr.cell? ⟨gb244,1,none⟩ = some (.int .i64 ((rd_T83 l0 x3_1).f1)):=(bC_ BK244.out 1).trans rfl
                have hfz24_0:=bF_ BK244.out 0
                have hfz24_1:=bF_ BK244.out 1
                go_wp2
                repeat (go_quiet (fail);try go_wp2)
                go_roundg k3
                case measure => have:=HK1.out;have:=HJ5.out;have:=HK3.out;omega
                case rel => exact ⟨(wrap64 (x5_3 + 1)),(by first|rfl|(simp;done)|(simp [*];done)),H',⟨by have:=HK1.out;have:=HJ5.out;have:=HK3.out;omega⟩,⟨by (with_reducible repeat (first|refine bN_ ?_ _|refine bD_ ?_|refine bA_ ?_ _));exact BK244.out⟩,⟨by repeat (first|(with_reducible first|exact HB.out|apply eA_|apply eN_|apply eD_|refine eS_ ?_ GE244.out)|exact HB.out)⟩⟩
              ·rw [if_neg c21] at H
               exact absurd H (by simp)
             ·rw [if_neg c20] at H
              exact absurd H (by simp)
            ·rw [if_neg c19] at H
             have c19b0 : decide (x5_3 < x3_1) = false:=decide_eq_false c19
             clear c19
             have H':=A0_.mk H
             clear H
             go_wp2
             repeat (go_quiet (fail);try go_wp2)
             go_roundg k3
             case measure => have:=HK1.out;have:=HJ5.out;have:=HK3.out;omega
             case rel => exact ⟨(wrap64 (x3_1 + 1)),(by first|rfl|(simp;done)|(simp [*];done)),H',⟨by have:=HK1.out;have:=HJ5.out;have:=HK3.out;omega⟩,⟨by repeat (first|(with_reducible first|exact HB.out|apply eA_|apply eN_|apply eD_|refine eS_ ?_ GE244.out)|exact HB.out)⟩⟩
      ·rw [if_neg c5] at H
       exact absurd H (by simp)
     ·rw [if_neg c4] at H
      have c4b0 : decide (x3_1 < (l0.length : Int)) = false:=decide_eq_false c4
      clear c4
      obtain rfl:=Option.some.inj H
      go_wp2
      repeat (go_quiet (fail);try go_wp2)
      go_ret
      exact ⟨by first|rfl|(simp [errW_none,errW_some] <;> rfl)|(simp [*,errW_none,errW_some] <;> rfl),by repeat (first|(with_reducible first|exact HB.out|apply eA_|apply eN_|apply eD_)|exact HB.out)⟩
mutual
def r12_trace.j0 : Nat → Int → Int → Bool → List Bool → List (List Bool) → Int → Option (Bool)
 |0,_,_,_,_,_,_ => none
 |k + 1,x2,x7,x35,x247000,x247001,x247002 => if x35 = true then (some false) else (r12_trace.l0 k x2 x7 0 x247000 x247001 x247002)
def r12_trace.l0 : Nat → Int → Int → Int → List Bool → List (List Bool) → Int → Option (Bool)
 |0,_,_,_,_,_,_ => none
 |k + 1,x2,x7,x8,x247000,x247001,x247002 => if x8 < x7 then (if 0 ≤ x8 then (if x8 < (x247001.length : Int) then (if ((rd_L6 x247001 x8).length : Int) = x2 then (r12_trace.l0 k x2 x7 (wrap64 (x8 + 1)) x247000 x247001 x247002) else (some false)) else (none)) else (none)) else (some true)
end
def r12_trace.f (k : Nat) (l0_0 : List Bool) (l0_1 : List (List Bool)) (a0_2 : Int) (a1 : Int) (a2 : Int) : Option (Bool):=if (l0_0.length : Int) = a1 then (if (l0_1.length : Int) < 1 then (r12_trace.j0 k a2 (l0_1.length : Int) true l0_0 l0_1 a0_2) else (if (l0_1.length : Int) > 512 then (r12_trace.j0 k a2 (l0_1.length : Int) true l0_0 l0_1 a0_2) else (if a0_2 < (-1) then (r12_trace.j0 k a2 (l0_1.length : Int) true l0_0 l0_1 a0_2) else (r12_trace.j0 k a2 (l0_1.length : Int) (decide (a0_2 ≥ (l0_1.length : Int))) l0_0 l0_1 a0_2)))) else (r12_trace.j0 k a2 (l0_1.length : Int) true l0_0 l0_1 a0_2)
theorem r12_trace.mono_l : ∀ k,(∀ y0 y1 y2 y3 y4 y5,LeO (r12_trace.j0 k y0 y1 y2 y3 y4 y5) (r12_trace.j0 (k + 1) y0 y1 y2 y3 y4 y5)) ∧ (∀ y0 y1 y2 y3 y4 y5,LeO (r12_trace.l0 k y0 y1 y2 y3 y4 y5) (r12_trace.l0 (k + 1) y0 y1 y2 y3 y4 y5))
 |0 => ⟨fun _ _ _ _ _ _ r h => by simp [r12_trace.j0] at h,fun _ _ _ _ _ _ r h => by simp [r12_trace.l0] at h⟩
 |k + 1 => by
  obtain ⟨ih0,ih1⟩:=r12_trace.mono_l k
  refine ⟨?_,?_⟩
  ·intro y0 y1 y2 y3 y4 y5
   unfold r12_trace.j0
   repeat' first
   |(with_reducible exact ih0 _ _ _ _ _ _)
   |(with_reducible exact ih1 _ _ _ _ _ _)
   |(with_reducible exact LeO.refl _)
   |(with_reducible exact LeO.none _)
   |(with_reducible refine LeO.ite ?_ ?_)
   |(with_reducible refine LeO.bind ?_ (fun _ => ?_))
   |exact ih0 _ _ _ _ _ _
   |exact ih1 _ _ _ _ _ _
   |exact LeO.none _
   |refine LeO.ite ?_ ?_
   |refine LeO.bind ?_ (fun _ => ?_)
  ·intro y0 y1 y2 y3 y4 y5
   unfold r12_trace.l0
   repeat' first
   |(with_reducible exact ih0 _ _ _ _ _ _)
   |(with_reducible exact ih1 _ _ _ _ _ _)
   |(with_reducible exact LeO.refl _)
   |(with_reducible exact LeO.none _)
   |(with_reducible refine LeO.ite ?_ ?_)
   |(with_reducible refine LeO.bind ?_ (fun _ => ?_))
   |exact ih0 _ _ _ _ _ _
   |exact ih1 _ _ _ _ _ _
   |exact LeO.none _
   |refine LeO.ite ?_ ?_
   |refine LeO.bind ?_ (fun _ => ?_)
theorem r12_trace.mono : ∀ a0 a1 a2 a3 a4 k,LeO (r12_trace.f k a0 a1 a2 a3 a4) (r12_trace.f (k + 1) a0 a1 a2 a3 a4):=by
 intro a0 a1 a2 a3 a4 k
 obtain ⟨ih0,ih1⟩:=r12_trace.mono_l k
 unfold r12_trace.f
 repeat' first
   |(with_reducible exact ih0 _ _ _ _ _ _)
   |(with_reducible exact ih1 _ _ _ _ _ _)
   |(with_reducible exact LeO.refl _)
   |(with_reducible exact LeO.none _)
   |(with_reducible refine LeO.ite ?_ ?_)
   |(with_reducible refine LeO.bind ?_ (fun _ => ?_))
   |exact ih0 _ _ _ _ _ _
   |exact ih1 _ _ _ _ _ _
   |exact LeO.none _
   |refine LeO.ite ?_ ?_
   |refine LeO.bind ?_ (fun _ => ?_)
set_option maxHeartbeats 8000000 in
set_option maxRecDepth 100000 in
theorem r12_trace.calls (k : Nat) (A0_0 : Option Addr) (c0_0 : Nat) (l0_0 : List Bool) (A0_1 : Option Addr) (c0_1 : Nat) (l0_1 : List (List Bool)) (a0_2 : Int) (a1 : Int) (a2 : Int) (r : Bool) (w : World) (hr0_0 : Kd.C Kd.bool w A0_0 l0_0.length l0_0) (hc0_0 : l0_0.length ≤ c0_0) (hr0_1 : Kd.C (Kd.slice 4 Kd.bool) w A0_1 l0_1.length l0_1) (hc0_1 : l0_1.length ≤ c0_1) (h : r12_trace.f k l0_0 l0_1 a0_2 a1 a2 = some r) :
  Calls Tryd.prog 44 #[.agg #[.slice A0_0 l0_0.length c0_0,.slice A0_1 l0_1.length c0_1,.int .i64 a0_2],.int .i64 a1,.int .i64 a2] w fun e w' => e = .returned (.bool r) ∧ Below w.heap.size w w':=by
 have hu26:=Tryd.underlying26
 have HR0_0:=A0_.mk hr0_0
 have HC0_0:=A0_.mk hc0_0
 clear hr0_0 hc0_0
 have HR0_1:=A0_.mk hr0_1
 have HC0_1:=A0_.mk hc0_1
 clear hr0_1 hc0_1
 have HB:=A0_.mk (Below.refl w.heap.size w)
 have H : (if (l0_0.length : Int) = a1 then (if (l0_1.length : Int) < 1 then (r12_trace.j0 k a2 (l0_1.length : Int) true l0_0 l0_1 a0_2) else (if (l0_1.length : Int) > 512 then (r12_trace.j0 k a2 (l0_1.length : Int) true l0_0 l0_1 a0_2) else (if a0_2 < (-1) then (r12_trace.j0 k a2 (l0_1.length : Int) true l0_0 l0_1 a0_2) else (r12_trace.j0 k a2 (l0_1.length : Int) (decide (a0_2 ≥ (l0_1.length : Int))) l0_0 l0_1 a0_2)))) else (r12_trace.j0 k a2 (l0_1.length : Int) true l0_0 l0_1 a0_2)) = some r:=h
 clear h
 have HC4:=A0_.mk H
 clear H
 go_enter Tryd.func44,Tryd.ntmps44
 go_upto_region 2 with (first|((with_reducible refine gate_dst (N:=3) rfl ?_);refine box_event ?hg (N:=3) ?hd (cs:=#[.slice A0_0 l0_0.length c0_0,.slice A0_1 l0_1.length c0_1,.int .i64 a0_2]) (t:=26) ?hr ?_;(case hd => rfl);(case hg => rfl);(case hr => first|(go_simp;done)|(go_simp;rfl));intro gb246 hg w5 hbox hb;have n0_:=A0_.mk (below_step (by repeat (first|(with_reducible first|exact HB.out|apply eA_|apply eN_|apply eD_)|exact HB.out)) hb);have n1_:=A0_.mk (hbox);have n2_:=A0_.mk ((by rw [hg];exact (below_size (by repeat (first|(with_reducible first|exact HB.out|apply eA_|apply eN_|apply eD_)|exact HB.out))) : w.heap.size ≤ gb246));have n3_:=A0_.mk ((by rw [hg];exact (below_size (by repeat (first|(with_reducible first|exact HB.out|apply eA_|apply eN_|apply eD_)|exact HB.out))) : w.heap.size ≤ gb246));clear HB;have HB:=n0_;have BK246:=n1_;have GW246:=n2_;have GE246:=n3_;clear n0_ n1_ n2_ n3_;clear hb hbox hg;have hcz6_0 : w5.cell? ⟨gb246,0,none⟩ = some (.slice A0_0 l0_0.length c0_0):=(bC_ BK246.out 0).trans rfl;have hcz6_1 : w5.cell? ⟨gb246,1,none⟩ = some (.slice A0_1 l0_1.length c0_1):=(bC_ BK246.out 1).trans rfl;have hcz6_2 : w5.cell? ⟨gb246,2,none⟩ = some (.int .i64 a0_2):=(bC_ BK246.out 2).trans rfl;have hfz6_0:=bF_ BK246.out 0;have hfz6_1:=bF_ BK246.out 1;have hfz6_2:=bF_ BK246.out 2))
 (try simp only [Act.put,List.setIfInBounds_toArray,List.set_cons_zero,List.set_cons_succ])
 go_cut [35] (fun v35 wc => ∃ (kq : Nat) (x35_3 : Bool),v35 = .bool x35_3 ∧ A0_ (r12_trace.j0 kq a2 (l0_1.length : Int) x35_3 l0_0 l0_1 a0_2 = some r) ∧ A0_ (kq ≤ k) ∧ A0_ (wc.heap[gb246]? = some (.cells #[(.slice A0_0 l0_0.length c0_0),(.slice A0_1 l0_1.length c0_1),.int .i64 a0_2] 26 (0,0))) ∧ A0_ (Below w.heap.size w wc))
 case first =>
  have H:=HC4.out
  clear HC4
  by_cases c7 : (l0_0.length : Int) = a1
  ·rw [if_pos c7] at H
   have c7b0 : ((l0_0.length : Int) == a1) = true:=beq_iff_eq.mpr c7
   have c7b1 : ((l0_0.length : Int) != a1) = false:=bne_eq_false_iff_eq.mpr c7
   clear c7
   (first|rw [c7b0]|(simp only [i64_w,i32_w];rw [c7b0])|skip)
   by_cases c8 : (l0_1.length : Int) < 1
   ·rw [if_pos c8] at H
    have c8b0 : decide ((l0_1.length : Int) < 1) = true:=decide_eq_true c8
    have c8b1 : decide (l0_1.length < 1) = true:=decide_eq_true (by omega)
    have c8b2 : l0_1.length < 1:=by omega
    clear c8
    have H':=A0_.mk H
    clear H
    have hcz9_0 : w5.cell? ⟨gb246,0,none⟩ = some (.slice A0_0 l0_0.length c0_0):=(bC_ BK246.out 0).trans rfl
    have hcz9_1 : w5.cell? ⟨gb246,1,none⟩ = some (.slice A0_1 l0_1.length c0_1):=(bC_ BK246.out 1).trans rfl
    have hcz9_2 : w5.cell? ⟨gb246,2,none⟩ = some (.int .i64 a0_2):=(bC_ BK246.out 2).trans rfl
    have hfz9_0:=bF_ BK246.out 0
    have hfz9_1:=bF_ BK246.out 1
    have hfz9_2:=bF_ BK246.out 2
    go_wp2
    go_meet
    case rel => exact ⟨_,(true),(by first|rfl|(simp;done)|(simp [*];done)),H',⟨by first|omega|exact Nat.le_refl _⟩,⟨by (with_reducible repeat (first|refine bN_ ?_ _|refine bD_ ?_|refine bA_ ?_ _));exact BK246.out⟩,⟨by repeat (first|(with_reducible first|exact HB.out|apply eA_|apply eN_|apply eD_|refine eS_ ?_ GE246.out)|exact HB.out)⟩⟩
   ·rw [if_neg c8] at H
    have c8b0 : decide ((l0_1.length : Int) < 1) = false:=decide_eq_false c8
    have c8b1 : decide (l0_1.length < 1) = false:=decide_eq_false (by omega)
    have c8b2 : ¬ (l0_1.length < 1):=by omega
    clear c8
    by_cases c10 : (l0_1.length : Int) > 512
    ·rw [if_pos c10] at H
     have c10b0 : decide (512 < (l0_1.length : Int)) = true:=decide_eq_true c10
     have c10b1 : decide (512 < l0_1.length) = true:=decide_eq_true (by omega)
     have c10b2 : 512 < l0_1.length:=by omega
     clear c10
     have H':=A0_.mk H
     clear H
     have hcz11_0 : w5.cell? ⟨gb246,0,none⟩ = some (.slice A0_0 l0_0.length c0_0):=(bC_ BK246.out 0).trans rfl
     have hcz11_1 : w5.cell? ⟨gb246,1,none⟩ = some (.slice A0_1 l0_1.length c0_1):=(bC_ BK246.out 1).trans rfl
     have hcz11_2 : w5.cell? ⟨gb246,2,none⟩ = some (.int .i64 a0_2):=(bC_ BK246.out 2).trans rfl
     have hfz11_0:=bF_ BK246.out 0
     have hfz11_1:=bF_ BK246.out 1
     have hfz11_2:=bF_ BK246.out 2
     go_wp2
     go_meet
     case rel => exact ⟨_,(true),(by first|rfl|(simp;done)|(simp [*];done)),H',⟨by first|omega|exact Nat.le_refl _⟩,⟨by (with_reducible repeat (first|refine bN_ ?_ _|refine bD_ ?_|refine bA_ ?_ _));exact BK246.out⟩,⟨by repeat (first|(with_reducible first|exact HB.out|apply eA_|apply eN_|apply eD_|refine eS_ ?_ GE246.out)|exact HB.out)⟩⟩
    ·rw [if_neg c10] at H
     have c10b0 : decide (512 < (l0_1.length : Int)) = false:=decide_eq_false c10
     have c10b1 : decide (512 < l0_1.length) = false:=decide_eq_false (by omega)
     have c10b2 : ¬ (512 < l0_1.length):=by omega
     clear c10
     by_cases c12 : a0_2 < (-1)
     ·rw [if_pos c12] at H
      have c12b0 : decide (a0_2 < (-1)) = true:=decide_eq_true c12
      clear c12
      have H':=A0_.mk H
      clear H
      have hcz13_0 : w5.cell? ⟨gb246,0,none⟩ = some (.slice A0_0 l0_0.length c0_0):=(bC_ BK246.out 0).trans rfl
      have hcz13_1 : w5.cell? ⟨gb246,1,none⟩ = some (.slice A0_1 l0_1.length c0_1):=(bC_ BK246.out 1).trans rfl
      have hcz13_2 : w5.cell? ⟨gb246,2,none⟩ = some (.int .i64 a0_2):=(bC_ BK246.out 2).trans rfl
      have hfz13_0:=bF_ BK246.out 0
      have hfz13_1:=bF_ BK246.out 1
      have hfz13_2:=bF_ BK246.out 2
      go_wp2
      go_meet
      case rel => exact ⟨_,(true),(by first|rfl|(simp;done)|(simp [*];done)),H',⟨by first|omega|exact Nat.le_refl _⟩,⟨by (with_reducible repeat (first|refine bN_ ?_ _|refine bD_ ?_|refine bA_ ?_ _));exact BK246.out⟩,⟨by repeat (first|(with_reducible first|exact HB.out|apply eA_|apply eN_|apply eD_|refine eS_ ?_ GE246.out)|exact HB.out)⟩⟩
     ·rw [if_neg c12] at H
      have c12b0 : decide (a0_2 < (-1)) = false:=decide_eq_false c12
      clear c12
      have H':=A0_.mk H
      clear H
      have hcz14_0 : w5.cell? ⟨gb246,0,none⟩ = some (.slice A0_0 l0_0.length c0_0):=(bC_ BK246.out 0).trans rfl
      have hcz14_1 : w5.cell? ⟨gb246,1,none⟩ = some (.slice A0_1 l0_1.length c0_1):=(bC_ BK246.out 1).trans rfl
      have hcz14_2 : w5.cell? ⟨gb246,2,none⟩ = some (.int .i64 a0_2):=(bC_ BK246.out 2).trans rfl
      have hfz14_0:=bF_ BK246.out 0
      have hfz14_1:=bF_ BK246.out 1
      have hfz14_2:=bF_ BK246.out 2
      go_wp2
      go_meet
      case rel => exact ⟨_,(decide (a0_2 ≥ (l0_1.length : Int))),(by first|rfl|(simp;done)|(simp [*];done)),H',⟨by first|omega|exact Nat.le_refl _⟩,⟨by (with_reducible repeat (first|refine bN_ ?_ _|refine bD_ ?_|refine bA_ ?_ _));exact BK246.out⟩,⟨by repeat (first|(with_reducible first|exact HB.out|apply eA_|apply eN_|apply eD_|refine eS_ ?_ GE246.out)|exact HB.out)⟩⟩
  ·rw [if_neg c7] at H
   have c7b0 : ((l0_0.length : Int) == a1) = false:=beq_eq_false_iff_ne.mpr c7
   have c7b1 : ((l0_0.length : Int) != a1) = true:=bne_iff_ne.mpr c7
   (first|rw [c7b0]|(simp only [i64_w,i32_w];rw [c7b0])|skip)
   have H':=A0_.mk H
   clear H
   have hcz15_0 : w5.cell? ⟨gb246,0,none⟩ = some (.slice A0_0 l0_0.length c0_0):=(bC_ BK246.out 0).trans rfl
   have hcz15_1 : w5.cell? ⟨gb246,1,none⟩ = some (.slice A0_1 l0_1.length c0_1):=(bC_ BK246.out 1).trans rfl
   have hcz15_2 : w5.cell? ⟨gb246,2,none⟩ = some (.int .i64 a0_2):=(bC_ BK246.out 2).trans rfl
   have hfz15_0:=bF_ BK246.out 0
   have hfz15_1:=bF_ BK246.out 1
   have hfz15_2:=bF_ BK246.out 2
   go_wp2
   go_meet
   case rel => exact ⟨_,(true),(by first|rfl|(simp;done)|(simp [*];done)),H',⟨by first|omega|exact Nat.le_refl _⟩,⟨by (with_reducible repeat (first|refine bN_ ?_ _|refine bD_ ?_|refine bA_ ?_ _));exact BK246.out⟩,⟨by repeat (first|(with_reducible first|exact HB.out|apply eA_|apply eN_|apply eD_|refine eS_ ?_ GE246.out)|exact HB.out)⟩⟩
 case rest =>
  clear HC4
  try clear c1
  try clear p2
  try clear c4
  try clear c7
  try clear c7b0
  try clear c7b1
  try clear c8
  try clear c8b0
  try clear c8b1
  try clear c8b2
  try clear c10
  try clear c10b0
  try clear c10b1
  try clear c10b2
  try clear c12
  try clear c12b0
  try clear hcz11_0
  try clear hcz11_1
  try clear hcz11_2
  try clear hcz13_0
  try clear hcz13_1
  try clear hcz13_2
  try clear hcz14_0
  try clear hcz14_1
  try clear hcz14_2
  try clear hcz15_0
  try clear hcz15_1
  try clear hcz15_2
  try clear hcz6_0
  try clear hcz6_1
  try clear hcz6_2
  try clear hcz9_0
  try clear hcz9_1
  try clear hcz9_2
  try clear hfz11_0
  try clear hfz11_1
  try clear hfz11_2
  try clear hfz13_0
  try clear hfz13_1
  try clear hfz13_2
  try clear hfz14_0
  try clear hfz14_1
  try clear hfz14_2
  try clear hfz15_0
  try clear hfz15_1
  try clear hfz15_2
  try clear hfz6_0
  try clear hfz6_1
  try clear hfz6_2
  try clear hfz9_0
  try clear hfz9_1
  try clear hfz9_2
  obtain ⟨kq,x35_3,rfl,HA,HJ3,BK246,HB⟩:=hcut
  cases kq with
  |zero => exact absurd HA.out (by simp [r12_trace.j0])
  |succ kj3 =>
   have H:=HA.out
   clear HA
   simp only [r12_trace.j0] at H
   by_cases c16 : x35_3 = true
   ·subst c16
    have H1 : (some false) = some r:=by rw [if_pos rfl] at H;exact H
    clear H
    have H:=H1
    clear H1
    obtain rfl:=Option.some.inj H
    go_wp2
    go_ret
    exact ⟨by first|rfl|(simp [errW_none,errW_some] <;> rfl)|(simp [*,errW_none,errW_some] <;> rfl),by repeat (first|(with_reducible first|exact HB.out|apply eA_|apply eN_|apply eD_|refine eS_ ?_ GE246.out)|exact HB.out)⟩
   ·replace c16:=Bool.eq_false_iff.mpr c16
    subst c16
    have H1 : (r12_trace.l0 kj3 a2 (l0_1.length : Int) 0 l0_0 l0_1 a0_2) = some r:=by rw [if_neg (show ¬ (false = true) by decide)] at H;exact H
    clear H
    have H:=H1
    clear H1
    have H':=A0_.mk H
    clear H
    go_wp2
    (try simp only [Act.put,List.setIfInBounds_toArray,List.set_cons_zero,List.set_cons_succ])
    go_loopg [8] kj3 (fun kq v8 w' => ∃ (x8_2 : Int),v8 = .int .i64 x8_2 ∧ A0_ (r12_trace.l0 kq a2 (l0_1.length : Int) x8_2 l0_0 l0_1 a0_2 = some r) ∧ A0_ (kq ≤ kj3) ∧ A0_ (w'.heap[gb246]? = some (.cells #[(.slice A0_0 l0_0.length c0_0),(.slice A0_1 l0_1.length c0_1),.int .i64 a0_2] 26 (0,0))) ∧ A0_ (Below w.heap.size w w'))
    case atStart => exact ⟨(0),(by first|rfl|(simp;done)|(simp [*];done)),H',⟨Nat.le_refl _⟩,⟨by (with_reducible repeat (first|refine bN_ ?_ _|refine bD_ ?_|refine bA_ ?_ _));exact BK246.out⟩,⟨by repeat (first|(with_reducible first|exact HB.out|apply eA_|apply eN_|apply eD_|refine eS_ ?_ GE246.out)|exact HB.out)⟩⟩
    case round =>
     clear H'
     try clear c1
     try clear p2
     try clear c4
     try clear c7
     try clear c7b0
     try clear c7b1
     try clear c8
     try clear c8b0
     try clear c8b1
     try clear c8b2
     try clear c10
     try clear c10b0
     try clear c10b1
     try clear c10b2
     try clear c12
     try clear c12b0
     try clear c16
     try clear hcz11_0
     try clear hcz11_1
     try clear hcz11_2
     try clear hcz13_0
     try clear hcz13_1
     try clear hcz13_2
     try clear hcz14_0
     try clear hcz14_1
     try clear hcz14_2
     try clear hcz15_0
     try clear hcz15_1
     try clear hcz15_2
     try clear hcz6_0
     try clear hcz6_1
     try clear hcz6_2
     try clear hcz9_0
     try clear hcz9_1
     try clear hcz9_2
     try clear hfz11_0
     try clear hfz11_1
     try clear hfz11_2
     try clear hfz13_0
     try clear hfz13_1
     try clear hfz13_2
     try clear hfz14_0
     try clear hfz14_1
     try clear hfz14_2
     try clear hfz15_0
     try clear hfz15_1
     try clear hfz15_2
     try clear hfz6_0
     try clear hfz6_1
     try clear hfz6_2
     try clear hfz9_0
     try clear hfz9_1
     try clear hfz9_2
     try clear p2
     obtain ⟨x8_2,rfl,HA,HK2,BK246,HB⟩:=hrel
     cases gk with
     |zero => exact absurd HA.out (by simp [r12_trace.l0])
     |succ k2 =>
      have H:=HA.out
      clear HA
      simp only [r12_trace.l0] at H
      by_cases c17 : x8_2 < (l0_1.length : Int)
      ·rw [if_pos c17] at H
       have c17b0 : decide (x8_2 < (l0_1.length : Int)) = true:=decide_eq_true c17
       clear c17
       by_cases c18 : 0 ≤ x8_2
       ·rw [if_pos c18] at H
        have c18b0 : decide (0 ≤ x8_2) = true:=decide_eq_true c18
        clear c18
        by_cases c19 : x8_2 < (l0_1.length : Int)
        ·rw [if_pos c19] at H
         have c19b0 : decide (x8_2 < (l0_1.length : Int)) = true:=decide_eq_true c19
         clear c19
         by_cases c20 : ((rd_L6 l0_1 x8_2).length : Int) = a2
         ·rw [if_pos c20] at H
          have c20b0 : (((rd_L6 l0_1 x8_2).length : Int) == a2) = true:=beq_iff_eq.mpr c20
          have c20b1 : (((rd_L6 l0_1 x8_2).length : Int) != a2) = false:=bne_eq_false_iff_eq.mpr c20
          clear c20
          have H':=A0_.mk H
          clear H
          have hcz21_0 : wr.cell? ⟨gb246,0,none⟩ = some (.slice A0_0 l0_0.length c0_0):=(bC_ BK246.out 0).trans rfl
          have hcz21_1 : wr.cell? ⟨gb246,1,none⟩ = some (.slice A0_1 l0_1.length c0_1):=(bC_ BK246.out 1).trans rfl
          have hcz21_2 : wr.cell? ⟨gb246,2,none⟩ = some (.int .i64 a0_2):=(bC_ BK246.out 2).trans rfl
          have hfz21_0:=bF_ BK246.out 0
          have hfz21_1:=bF_ BK246.out 1
          have hfz21_2:=bF_ BK246.out 2
          have p247 : 0 ≤ (x8_2 : Int):=of_decide_eq_true (by first|(with_reducible assumption)|assumption)
          have q247 : x8_2 < (l0_1.length : Int):=of_decide_eq_true (by first|(with_reducible assumption)|assumption)
          obtain ⟨ad247,A247_0,c247_0,e247,hx247_0,hl247_0,hi247_0⟩:=at_L6 HR0_1.out x8_2 p247 q247
          cases e247
          replace hx247_0:=(HB.out.cell (World.block_lt_of_cell? w _ hx247_0)).trans hx247_0
          have HR247_0:=A0_.mk hi247_0
          have HC247_0:=A0_.mk hl247_0
          clear hi247_0 hl247_0
          replace p247:=eq_true p247
          replace q247:=eq_true q247
          go_wp2
          go_roundg k2
          case measure => have:=HJ3.out;have:=HK2.out;omega
          case rel => exact ⟨(wrap64 (x8_2 + 1)),(by first|rfl|(simp;done)|(simp [*];done)),H',⟨by have:=HJ3.out;have:=HK2.out;omega⟩,⟨by (with_reducible repeat (first|refine bN_ ?_ _|refine bD_ ?_|refine bA_ ?_ _));exact BK246.out⟩,⟨by repeat (first|(with_reducible first|exact HB.out|apply eA_|apply eN_|apply eD_|refine eS_ ?_ GE246.out)|exact HB.out)⟩⟩
         ·rw [if_neg c20] at H
          have c20b0 : (((rd_L6 l0_1 x8_2).length : Int) == a2) = false:=beq_eq_false_iff_ne.mpr c20
          have c20b1 : (((rd_L6 l0_1 x8_2).length : Int) != a2) = true:=bne_iff_ne.mpr c20
          obtain rfl:=Option.some.inj H
          have hcz22_0 : wr.cell? ⟨gb246,0,none⟩ = some (.slice A0_0 l0_0.length c0_0):=(bC_ BK246.out 0).trans rfl
          have hcz22_1 : wr.cell? ⟨gb246,1,none⟩ = some (.slice A0_1 l0_1.length c0_1):=(bC_ BK246.out 1).trans rfl
          have hcz22_2 : wr.cell? ⟨gb246,2,none⟩ = some (.int .i64 a0_2):=(bC_ BK246.out 2).trans rfl
          have hfz22_0:=bF_ BK246.out 0
          have hfz22_1:=bF_ BK246.out 1
          have hfz22_2:=bF_ BK246.out 2
          have p247 : 0 ≤ (x8_2 : Int):=of_decide_eq_true (by first|(with_reducible assumption)|assumption)
          have q247 : x8_2 < (l0_1.length : Int):=of_decide_eq_true (by first|(with_reducible assumption)|assumption)
          obtain ⟨ad247,A247_0,c247_0,e247,hx247_0,hl247_0,hi247_0⟩:=at_L6 HR0_1.out x8_2 p247 q247
          cases e247
          replace hx247_0:=(HB.out.cell (World.block_lt_of_cell? w _ hx247_0)).trans hx247_0
          have HR247_0:=A0_.mk hi247_0
          have HC247_0:=A0_.mk hl247_0
          clear hi247_0 hl247_0
          replace p247:=eq_true p247
          replace q247:=eq_true q247
          go_wp2
          go_ret
          exact ⟨by first|rfl|(simp [errW_none,errW_some] <;> rfl)|(simp [*,errW_none,errW_some] <;> rfl),by repeat (first|(with_reducible first|exact HB.out|apply eA_|apply eN_|apply eD_|refine eS_ ?_ GE246.out)|exact HB.out)⟩
        ·rw [if_neg c19] at H
         exact absurd H (by simp)
       ·rw [if_neg c18] at H
        exact absurd H (by simp)
      ·rw [if_neg c17] at H
       have c17b0 : decide (x8_2 < (l0_1.length : Int)) = false:=decide_eq_false c17
       clear c17
       obtain rfl:=Option.some.inj H
       go_wp2
       go_ret
       exact ⟨by first|rfl|(simp [errW_none,errW_some] <;> rfl)|(simp [*,errW_none,errW_some] <;> rfl),by repeat (first|(with_reducible first|exact HB.out|apply eA_|apply eN_|apply eD_|refine eS_ ?_ GE246.out)|exact HB.out)⟩
end Go.Proofs.YtojepjkpnponoaaDoor.Stim

