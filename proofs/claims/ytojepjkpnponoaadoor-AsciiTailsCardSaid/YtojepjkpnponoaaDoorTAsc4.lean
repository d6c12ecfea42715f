import Derived.Test.YtojepjkpnponoaaDoorTAsc0
import Derived.Test.YtojepjkpnponoaaDoorTAsc3
import Derived.Test.YtojepjkpnponoaaDoorTGV
namespace Go.Proofs.YtojepjkpnponoaaDoor.Asc
open Go.RowKit Go.Proofs.YtojepjkpnponoaaDoorW.PrintWords Go.Proofs.YtojepjkpnponoaaDoorW.PrintLast Go.Proofs.YtojepjkpnponoaaDoorW.PrintMore
attribute [local go_sem] max2_int min2_int max_two min_two max_three min_three max_four min_four
set_option linter.unusedVariables false
set_option linter.unusedSimpArgs false
def trestleref04_symbol.j0 : Nat → ByteArray → Int → Bool → Option (Int × Int × ByteArray × Bool)
  | 0,_,_,_ => none
  | k + 1,x0,x4,x38 => if x38 = true then (some (0,0,(⟨#[]⟩ : ByteArray),false)) else ((trestleref02_Number0.f k x0 1).bind fun bt108 => (if bt108.2.2 = true then (if (wrap64 (bt108.2.1 + 1)) ≥ (x0.size : Int) then (some (0,0,(⟨#[]⟩ : ByteArray),false)) else (if 0 ≤ bt108.2.1 then (if bt108.2.1 < (x0.size : Int) then (if (bt x0 bt108.2.1) = 32 then (if 0 ≤ (wrap64 (bt108.2.1 + 1)) then (if (wrap64 (bt108.2.1 + 1)) ≤ (x0.size : Int) then (some (x4,bt108.1,x0.extract ((wrap64 (bt108.2.1 + 1)) : Int).toNat x0.size,true)) else (none)) else (none)) else (some (0,0,(⟨#[]⟩ : ByteArray),false))) else (none)) else (none))) else (some (0,0,(⟨#[]⟩ : ByteArray),false))))
def trestleref04_symbol.f (k : Nat) (a0 : ByteArray) : Option (Int × Int × ByteArray × Bool):=if a0.toList = ([] : List UInt8) then (some (0,0,(⟨#[]⟩ : ByteArray),false)) else (if 0 < (a0.size : Int) then (if (bt a0 0) = 105 then (trestleref04_symbol.j0 k a0 (bt a0 0) false) else (if (bt a0 0) = 108 then (trestleref04_symbol.j0 k a0 (bt a0 0) false) else (if (bt a0 0) = 111 then (trestleref04_symbol.j0 k a0 (bt a0 0) false) else (if (bt a0 0) = 98 then (trestleref04_symbol.j0 k a0 (bt a0 0) false) else (if (bt a0 0) = 99 then (trestleref04_symbol.j0 k a0 (bt a0 0) false) else (if (bt a0 0) = 106 then (trestleref04_symbol.j0 k a0 (bt a0 0) false) else (trestleref04_symbol.j0 k a0 (bt a0 0) ((bt a0 0) != 102)))))))) else (none))
set_option maxHeartbeats 8000000 in
set_option maxRecDepth 100000 in
theorem trestleref04_symbol.calls (k : Nat) (a0 : ByteArray) (r1 : Int) (r2 : Int) (r3 : ByteArray) (r4 : Bool) (w : World) (h : trestleref04_symbol.f k a0 = some (r1,r2,r3,r4)) :
    Calls Tryd.prog 58 #[.string a0] w fun e w' => e = .returned (.tuple #[.agg #[.int .u8 r1,.int .i64 r2,.string r3],.bool r4]) ∧ Below w.heap.size w w':=by
  have hu59:=Tryd.underlying59
  have HB:=Aside0.mk (Below.refl w.heap.size w)
  have H : (if a0.toList = ([] : List UInt8) then (some (0,0,(⟨#[]⟩ : ByteArray),false)) else (if 0 < (a0.size : Int) then (if (bt a0 0) = 105 then (trestleref04_symbol.j0 k a0 (bt a0 0) false) else (if (bt a0 0) = 108 then (trestleref04_symbol.j0 k a0 (bt a0 0) false) else (if (bt a0 0) = 111 then (trestleref04_symbol.j0 k a0 (bt a0 0) false) else (if (bt a0 0) = 98 then (trestleref04_symbol.j0 k a0 (bt a0 0) false) else (if (bt a0 0) = 99 then (trestleref04_symbol.j0 k a0 (bt a0 0) false) else (if (bt a0 0) = 106 then (trestleref04_symbol.j0 k a0 (bt a0 0) false) else (trestleref04_symbol.j0 k a0 (bt a0 0) ((bt a0 0) != 102)))))))) else (none))) = some (r1,r2,r3,r4):=h
  clear h
  by_cases c2 : a0.toList = ([] : List UInt8)
  · rw [if_pos c2] at H
    have c2b0 : (a0.toList == ([] : List UInt8)) = true:=beq_iff_eq.mpr c2
    have c2b1 : (a0.toList != ([] : List UInt8)) = false:=bne_eq_false_iff_eq.mpr c2
    clear c2
    simp only [Option.some.injEq,Prod.mk.injEq] at H
    obtain ⟨rfl,rfl,rfl,rfl⟩:=H
    go_enter Tryd.func58,Tryd.ntmps58
    go_wp2_with (first|((with_reducible refine gate_dst (N:=2) rfl ?_);(try (refine gate_guard (by rfl) ?_;dsimp only));refine box_event ?hg (N:=2) ?hd (cs:=#[.int .u8 0,.int .i64 0,.string (⟨#[]⟩ : ByteArray)]) (t:=59) ?hr ?_;(case hd => rfl);(case hg => rfl);(case hr => first|(go_simp;done)|(go_simp;rfl));intro gb107 hg w3 hbox hb;have n0_:=Aside0.mk (below_step (by repeat (first|(with_reducible first|exact HB.out|apply below_alloc|apply pw_below_drewN|apply below_drew1)|exact HB.out)) hb);have n1_:=Aside0.mk (hbox);have n2_:=Aside0.mk ((by rw [hg];exact (below_size (by repeat (first|(with_reducible first|exact HB.out|apply below_alloc|apply pw_below_drewN|apply below_drew1)|exact HB.out))) : w.heap.size ≤ gb107));have n3_:=Aside0.mk ((by rw [hg];exact (below_size (by repeat (first|(with_reducible first|exact HB.out|apply below_alloc|apply pw_below_drewN|apply below_drew1)|exact HB.out))) : w.heap.size ≤ gb107));clear HB;have HB:=n0_;have BK107:=n1_;have GW107:=n2_;have GE107:=n3_;clear n0_ n1_ n2_ n3_;clear hb hbox hg;have hcz4_0 : w3.cell? ⟨gb107,0,none⟩ = some (.int .u8 0):=(blk_cell BK107.out 0).trans rfl;have hcz4_1 : w3.cell? ⟨gb107,1,none⟩ = some (.int .i64 0):=(blk_cell BK107.out 1).trans rfl;have hcz4_2 : w3.cell? ⟨gb107,2,none⟩ = some (.string (⟨#[]⟩ : ByteArray)):=(blk_cell BK107.out 2).trans rfl;have hfz4_0:=blk_frozen BK107.out 0;have hfz4_1:=blk_frozen BK107.out 1;have hfz4_2:=blk_frozen BK107.out 2))
    refine bodyPost_ret (results_ct rfl _ _ gb107 59 #[.int .u8 0,.int .i64 0,.string (⟨#[]⟩ : ByteArray)] (0,0) _ rfl (by (with_reducible repeat (first|refine blk_drewN ?_ _|refine blk_drew ?_|refine blk_alloc ?_ _));refine blk_put (cs:=#[.int .u8 0,.int .i64 0,.string (⟨#[]⟩ : ByteArray)]) ?_ 2 _ rfl;(with_reducible repeat (first|refine blk_drewN ?_ _|refine blk_drew ?_|refine blk_alloc ?_ _));refine blk_put (cs:=#[.int .u8 0,.int .i64 0,.string (⟨#[]⟩ : ByteArray)]) ?_ 1 _ rfl;(with_reducible repeat (first|refine blk_drewN ?_ _|refine blk_drew ?_|refine blk_alloc ?_ _));refine blk_put (cs:=#[.int .u8 0,.int .i64 0,.string (⟨#[]⟩ : ByteArray)]) ?_ 0 _ rfl;(with_reducible repeat (first|refine blk_drewN ?_ _|refine blk_drew ?_|refine blk_alloc ?_ _));exact BK107.out) Tryd.underlying59 rfl (by kernel_rfl)) rfl ?_
    exact ⟨by first|rfl|(simp [errW_none,errW_some] <;> rfl)|(simp [*,errW_none,errW_some] <;> rfl),by repeat (first|(with_reducible first|exact HB.out|apply below_alloc|apply pw_below_drewN|apply below_drew1|refine below_set ?_ GE107.out)|exact HB.out)⟩
  · rw [if_neg c2] at H
    have c2b0 : (a0.toList == ([] : List UInt8)) = false:=beq_eq_false_iff_ne.mpr c2
    have c2b1 : (a0.toList != ([] : List UInt8)) = true:=bne_iff_ne.mpr c2
    by_cases c5 : 0 < (a0.size : Int)
    · rw [if_pos c5] at H
      have c5b0 : decide (0 < (a0.size : Int)) = true:=decide_eq_true c5
      have c5b1 : decide (0 < a0.size) = true:=decide_eq_true (by omega)
      have c5b2 : 0 < a0.size:=by omega
      clear c5
      have HC7:=Aside0.mk H
      clear H
      go_enter Tryd.func58,Tryd.ntmps58
      go_upto_region 4 with (first|((with_reducible refine gate_dst (N:=2) rfl ?_);(try (refine gate_guard (by rfl) ?_;dsimp only));refine box_event ?hg (N:=2) ?hd (cs:=#[.int .u8 0,.int .i64 0,.string (⟨#[]⟩ : ByteArray)]) (t:=59) ?hr ?_;(case hd => rfl);(case hg => rfl);(case hr => first|(go_simp;done)|(go_simp;rfl));intro gb107 hg w8 hbox hb;have n0_:=Aside0.mk (below_step (by repeat (first|(with_reducible first|exact HB.out|apply below_alloc|apply pw_below_drewN|apply below_drew1)|exact HB.out)) hb);have n1_:=Aside0.mk (hbox);have n2_:=Aside0.mk ((by rw [hg];exact (below_size (by repeat (first|(with_reducible first|exact HB.out|apply below_alloc|apply pw_below_drewN|apply below_drew1)|exact HB.out))) : w.heap.size ≤ gb107));have n3_:=Aside0.mk ((by rw [hg];exact (below_size (by repeat (first|(with_reducible first|exact HB.out|apply below_alloc|apply pw_below_drewN|apply below_drew1)|exact HB.out))) : w.heap.size ≤ gb107));clear HB;have HB:=n0_;have BK107:=n1_;have GW107:=n2_;have GE107:=n3_;clear n0_ n1_ n2_ n3_;clear hb hbox hg;have p6 : 0 ≤ (0 : Int):=(by omega);have q6 : 0 < a0.size:=(by have : (0 : Int) < (a0.size : Int):=of_decide_eq_true (by first|(with_reducible assumption)|assumption);omega);have hx6 : ∀ h : 0 < a0.size,((a0[0]'h).toNat : Int) = bt a0 0:=bt_at a0 0;clear p6;have qi6 : (0 < (a0.size : Int)) = True:=eq_true (of_decide_eq_true (by first|(with_reducible assumption)|assumption));replace q6:=eq_true q6))
      (try simp only [Act.put,List.setIfInBounds_toArray,List.set_cons_zero,List.set_cons_succ])
      go_cut [38] (fun v38 wc => ∃ (kq : Nat) (x38_6 : Bool),v38 = .bool x38_6 ∧ Aside0 (trestleref04_symbol.j0 kq a0 (bt a0 0) x38_6 = some (r1,r2,r3,r4)) ∧ Aside0 (kq ≤ k) ∧ Aside0 (wc.heap[gb107]? = some (.cells #[.int .u8 0,.int .i64 0,.string (⟨#[]⟩ : ByteArray)] 59 (0,0))) ∧ Aside0 (Below w.heap.size w wc))
      case first =>
        have H:=HC7.out
        clear HC7
        by_cases c9 : (bt a0 0) = 105
        · rw [if_pos c9] at H
          have c9b0 : ((bt a0 0) == 105) = true:=beq_iff_eq.mpr c9
          have c9b1 : ((bt a0 0) != 105) = false:=bne_eq_false_iff_eq.mpr c9
          clear c9
          (first|rw [c9b0]|(simp only [i64_w,i32_w];rw [c9b0])|skip)
          have H':=Aside0.mk H
          clear H
          go_wp2
          go_meet
          case rel => exact ⟨_,(false),(by first|rfl|(simp;done)|(simp [*];done)),H',⟨by first|omega|exact Nat.le_refl _⟩,⟨by (with_reducible repeat (first|refine blk_drewN ?_ _|refine blk_drew ?_|refine blk_alloc ?_ _));exact BK107.out⟩,⟨by repeat (first|(with_reducible first|exact HB.out|apply below_alloc|apply pw_below_drewN|apply below_drew1|refine below_set ?_ GE107.out)|exact HB.out)⟩⟩
        · rw [if_neg c9] at H
          have c9b0 : ((bt a0 0) == 105) = false:=beq_eq_false_iff_ne.mpr c9
          have c9b1 : ((bt a0 0) != 105) = true:=bne_iff_ne.mpr c9
          (first|rw [c9b0]|(simp only [i64_w,i32_w];rw [c9b0])|skip)
          by_cases c10 : (bt a0 0) = 108
          · rw [if_pos c10] at H
            have c10b0 : ((bt a0 0) == 108) = true:=beq_iff_eq.mpr c10
            have c10b1 : ((bt a0 0) != 108) = false:=bne_eq_false_iff_eq.mpr c10
            clear c10
            have H':=Aside0.mk H
            clear H
            go_wp2
            go_meet
            case rel => exact ⟨_,(false),(by first|rfl|(simp;done)|(simp [*];done)),H',⟨by first|omega|exact Nat.le_refl _⟩,⟨by (with_reducible repeat (first|refine blk_drewN ?_ _|refine blk_drew ?_|refine blk_alloc ?_ _));exact BK107.out⟩,⟨by repeat (first|(with_reducible first|exact HB.out|apply below_alloc|apply pw_below_drewN|apply below_drew1|refine below_set ?_ GE107.out)|exact HB.out)⟩⟩
          · rw [if_neg c10] at H
            have c10b0 : ((bt a0 0) == 108) = false:=beq_eq_false_iff_ne.mpr c10
            have c10b1 : ((bt a0 0) != 108) = true:=bne_iff_ne.mpr c10
            by_cases c11 : (bt a0 0) = 111
            · rw [if_pos c11] at H
              have c11b0 : ((bt a0 0) == 111) = true:=beq_iff_eq.mpr c11
              have c11b1 : ((bt a0 0) != 111) = false:=bne_eq_false_iff_eq.mpr c11
              clear c11
              have H':=Aside0.mk H
              clear H
              go_wp2
              go_meet
              case rel => exact ⟨_,(false),(by first|rfl|(simp;done)|(simp [*];done)),H',⟨by first|omega|exact Nat.le_refl _⟩,⟨by (with_reducible repeat (first|refine blk_drewN ?_ _|refine blk_drew ?_|refine blk_alloc ?_ _));exact BK107.out⟩,⟨by repeat (first|(with_reducible first|exact HB.out|apply below_alloc|apply pw_below_drewN|apply below_drew1|refine below_set ?_ GE107.out)|exact HB.out)⟩⟩
            · rw [if_neg c11] at H
              have c11b0 : ((bt a0 0) == 111) = false:=beq_eq_false_iff_ne.mpr c11
              have c11b1 : ((bt a0 0) != 111) = true:=bne_iff_ne.mpr c11
              by_cases c12 : (bt a0 0) = 98
              · rw [if_pos c12] at H
                have c12b0 : ((bt a0 0) == 98) = true:=beq_iff_eq.mpr c12
                have c12b1 : ((bt a0 0) != 98) = false:=bne_eq_false_iff_eq.mpr c12
                clear c12
                have H':=Aside0.mk H
                clear H
                go_wp2
                go_meet
                case rel => exact ⟨_,(false),(by first|rfl|(simp;done)|(simp [*];done)),H',⟨by first|omega|exact Nat.le_refl _⟩,⟨by (with_reducible repeat (first|refine blk_drewN ?_ _|refine blk_drew ?_|refine blk_alloc ?_ _));exact BK107.out⟩,⟨by repeat (first|(with_reducible first|exact HB.out|apply below_alloc|apply pw_below_drewN|apply below_drew1|refine below_set ?_ GE107.out)|exact HB.out)⟩⟩
              · rw [if_neg c12] at H
                have c12b0 : ((bt a0 0) == 98) = false:=beq_eq_false_iff_ne.mpr c12
                have c12b1 : ((bt a0 0) != 98) = true:=bne_iff_ne.mpr c12
                by_cases c13 : (bt a0 0) = 99
                · rw [if_pos c13] at H
                  have c13b0 : ((bt a0 0) == 99) = true:=beq_iff_eq.mpr c13
                  have c13b1 : ((bt a0 0) != 99) = false:=bne_eq_false_iff_eq.mpr c13
                  clear c13
                  have H':=Aside0.mk H
                  clear H
                  go_wp2
                  go_meet
                  case rel => exact ⟨_,(false),(by first|rfl|(simp;done)|(simp [*];done)),H',⟨by first|omega|exact Nat.le_refl _⟩,⟨by (with_reducible repeat (first|refine blk_drewN ?_ _|refine blk_drew ?_|refine blk_alloc ?_ _));exact BK107.out⟩,⟨by repeat (first|(with_reducible first|exact HB.out|apply below_alloc|apply pw_below_drewN|apply below_drew1|refine below_set ?_ GE107.out)|exact HB.out)⟩⟩
                · rw [if_neg c13] at H
                  have c13b0 : ((bt a0 0) == 99) = false:=beq_eq_false_iff_ne.mpr c13
                  have c13b1 : ((bt a0 0) != 99) = true:=bne_iff_ne.mpr c13
                  by_cases c14 : (bt a0 0) = 106
                  · rw [if_pos c14] at H
                    have c14b0 : ((bt a0 0) == 106) = true:=beq_iff_eq.mpr c14
                    have c14b1 : ((bt a0 0) != 106) = false:=bne_eq_false_iff_eq.mpr c14
                    clear c14
                    have H':=Aside0.mk H
                    clear H
                    go_wp2
                    go_meet
                    case rel => exact ⟨_,(false),(by first|rfl|(simp;done)|(simp [*];done)),H',⟨by first|omega|exact Nat.le_refl _⟩,⟨by (with_reducible repeat (first|refine blk_drewN ?_ _|refine blk_drew ?_|refine blk_alloc ?_ _));exact BK107.out⟩,⟨by repeat (first|(with_reducible first|exact HB.out|apply below_alloc|apply pw_below_drewN|apply below_drew1|refine below_set ?_ GE107.out)|exact HB.out)⟩⟩
                  · rw [if_neg c14] at H
                    have c14b0 : ((bt a0 0) == 106) = false:=beq_eq_false_iff_ne.mpr c14
                    have c14b1 : ((bt a0 0) != 106) = true:=bne_iff_ne.mpr c14
                    have H':=Aside0.mk H
                    clear H
                    go_wp2
                    go_meet
                    case rel => exact ⟨_,(((bt a0 0) != 102)),(by first|rfl|(simp;done)|(simp [*];done)),H',⟨by first|omega|exact Nat.le_refl _⟩,⟨by (with_reducible repeat (first|refine blk_drewN ?_ _|refine blk_drew ?_|refine blk_alloc ?_ _));exact BK107.out⟩,⟨by repeat (first|(with_reducible first|exact HB.out|apply below_alloc|apply pw_below_drewN|apply below_drew1|refine below_set ?_ GE107.out)|exact HB.out)⟩⟩
      case rest =>
        clear HC7
        try clear c1
        try clear c2
        try clear c2b0
        try clear c2b1
        try clear p2
        try clear c5
        try clear c5b0
        try clear c5b1
        try clear c5b2
        try clear p6
        try clear q6
        try clear hx6
        try clear qi6
        try clear c9
        try clear c9b0
        try clear c9b1
        try clear c10
        try clear c10b0
        try clear c10b1
        try clear c11
        try clear c11b0
        try clear c11b1
        try clear c12
        try clear c12b0
        try clear c12b1
        try clear c13
        try clear c13b0
        try clear c13b1
        try clear c14
        try clear c14b0
        try clear c14b1
        try clear hcz4_0
        try clear hcz4_1
        try clear hcz4_2
        try clear hfz4_0
        try clear hfz4_1
        try clear hfz4_2
        try clear p6
        try clear q6
        obtain ⟨kq,x38_6,rfl,HA,HJ6,BK107,HB⟩:=hcut
        cases kq with
        | zero => exact absurd HA.out (by simp [trestleref04_symbol.j0])
        | succ kj6 =>
          have H:=HA.out
          clear HA
          simp only [trestleref04_symbol.j0] at H
          by_cases c15 : x38_6 = true
          · subst c15
            have H1 : (some (0,0,(⟨#[]⟩ : ByteArray),false)) = some (r1,r2,r3,r4):=by rw [if_pos rfl] at H;exact H
            clear H
            have H:=H1
            clear H1
            simp only [Option.some.injEq,Prod.mk.injEq] at H
            obtain ⟨rfl,rfl,rfl,rfl⟩:=H
            have hcz16_0 : wc.cell? ⟨gb107,0,none⟩ = some (.int .u8 0):=(blk_cell BK107.out 0).trans rfl
            have hcz16_1 : wc.cell? ⟨gb107,1,none⟩ = some (.int .i64 0):=(blk_cell BK107.out 1).trans rfl
            have hcz16_2 : wc.cell? ⟨gb107,2,none⟩ = some (.string (⟨#[]⟩ : ByteArray)):=(blk_cell BK107.out 2).trans rfl
            have hfz16_0:=blk_frozen BK107.out 0
            have hfz16_1:=blk_frozen BK107.out 1
            have hfz16_2:=blk_frozen BK107.out 2
            go_wp2
            refine bodyPost_ret (results_ct rfl _ _ gb107 59 #[.int .u8 0,.int .i64 0,.string (⟨#[]⟩ : ByteArray)] (0,0) _ rfl (by (with_reducible repeat (first|refine blk_drewN ?_ _|refine blk_drew ?_|refine blk_alloc ?_ _));refine blk_put (cs:=#[.int .u8 0,.int .i64 0,.string (⟨#[]⟩ : ByteArray)]) ?_ 2 _ rfl;(with_reducible repeat (first|refine blk_drewN ?_ _|refine blk_drew ?_|refine blk_alloc ?_ _));refine blk_put (cs:=#[.int .u8 0,.int .i64 0,.string (⟨#[]⟩ : ByteArray)]) ?_ 1 _ rfl;(with_reducible repeat (first|refine blk_drewN ?_ _|refine blk_drew ?_|refine blk_alloc ?_ _));refine blk_put (cs:=#[.int .u8 0,.int .i64 0,.string (⟨#[]⟩ : ByteArray)]) ?_ 0 _ rfl;(with_reducible repeat (first|refine blk_drewN ?_ _|refine blk_drew ?_|refine blk_alloc ?_ _));exact BK107.out) Tryd.underlying59 rfl (by kernel_rfl)) rfl ?_
            exact ⟨by first|rfl|(simp [errW_none,errW_some] <;> rfl)|(simp [*,errW_none,errW_some] <;> rfl),by repeat (first|(with_reducible first|exact HB.out|apply below_alloc|apply pw_below_drewN|apply below_drew1|refine below_set ?_ GE107.out)|exact HB.out)⟩
          · replace c15:=Bool.eq_false_iff.mpr c15
            subst c15
            have H1 : ((trestleref02_Number0.f kj6 a0 1).bind fun bt108 => (if bt108.2.2 = true then (if (wrap64 (bt108.2.1 + 1)) ≥ (a0.size : Int) then (some (0,0,(⟨#[]⟩ : ByteArray),false)) else (if 0 ≤ bt108.2.1 then (if bt108.2.1 < (a0.size : Int) then (if (bt a0 bt108.2.1) = 32 then (if 0 ≤ (wrap64 (bt108.2.1 + 1)) then (if (wrap64 (bt108.2.1 + 1)) ≤ (a0.size : Int) then (some ((bt a0 0),bt108.1,a0.extract ((wrap64 (bt108.2.1 + 1)) : Int).toNat a0.size,true)) else (none)) else (none)) else (some (0,0,(⟨#[]⟩ : ByteArray),false))) else (none)) else (none))) else (some (0,0,(⟨#[]⟩ : ByteArray),false)))) = some (r1,r2,r3,r4):=by rw [if_neg (show ¬ (false = true) by decide)] at H;exact H
            clear H
            have H:=H1
            clear H1
            replace H:=Option.bind_eq_some_iff.mp H
            obtain ⟨⟨t108,t109,t110⟩,A170,H⟩:=H
            replace H : (if t110 = true then (if (wrap64 (t109 + 1)) ≥ (a0.size : Int) then (some (0,0,(⟨#[]⟩ : ByteArray),false)) else (if 0 ≤ t109 then (if t109 < (a0.size : Int) then (if (bt a0 t109) = 32 then (if 0 ≤ (wrap64 (t109 + 1)) then (if (wrap64 (t109 + 1)) ≤ (a0.size : Int) then (some ((bt a0 0),t108,a0.extract ((wrap64 (t109 + 1)) : Int).toNat a0.size,true)) else (none)) else (none)) else (some (0,0,(⟨#[]⟩ : ByteArray),false))) else (none)) else (none))) else (some (0,0,(⟨#[]⟩ : ByteArray),false))) = some (r1,r2,r3,r4):=H
            have A17:=Aside0.mk A170
            clear A170
            by_cases c18 : t110 = true
            · subst c18
              have H1 : (if (wrap64 (t109 + 1)) ≥ (a0.size : Int) then (some (0,0,(⟨#[]⟩ : ByteArray),false)) else (if 0 ≤ t109 then (if t109 < (a0.size : Int) then (if (bt a0 t109) = 32 then (if 0 ≤ (wrap64 (t109 + 1)) then (if (wrap64 (t109 + 1)) ≤ (a0.size : Int) then (some ((bt a0 0),t108,a0.extract ((wrap64 (t109 + 1)) : Int).toNat a0.size,true)) else (none)) else (none)) else (some (0,0,(⟨#[]⟩ : ByteArray),false))) else (none)) else (none))) = some (r1,r2,r3,r4):=by rw [if_pos rfl] at H;exact H
              clear H
              have H:=H1
              clear H1
              by_cases c19 : (wrap64 (t109 + 1)) ≥ (a0.size : Int)
              · rw [if_pos c19] at H
                have c19b0 : decide ((a0.size : Int) ≤ (wrap64 (t109 + 1))) = true:=decide_eq_true c19
                clear c19
                simp only [Option.some.injEq,Prod.mk.injEq] at H
                obtain ⟨rfl,rfl,rfl,rfl⟩:=H
                go_wp2_with (first|((with_reducible refine gate_callee (f:=83) rfl ?_);refine goesL_ (some 42) rfl rfl Tryd.func83 (by kernel_rfl) rfl #[.string a0,.int .i64 1] rfl (by (try simp only [List.map_toArray,List.map_cons,List.map_nil]);first|done|rfl|(simp only [List.length_drop,List.length_take];rfl)) ?_;(with_reducible refine (trestleref02_Number0.calls kj6 a0 1 t108 t109 true _ A17.out).mono ?_);rintro e w' ⟨rfl,⟨nd,rfl⟩⟩;refine ⟨_,rfl,?_⟩;(try (rw [drewN_self wc];generalize hq_ : World.drewN wc _ = wc;have n0_ : Aside0 (wc.heap[gb107]? = some (.cells #[.int .u8 0,.int .i64 0,.string (⟨#[]⟩ : ByteArray)] 59 (0,0))):=⟨by rw [← hq_];exact (by (with_reducible repeat (first|refine blk_drewN ?_ _|refine blk_drew ?_|refine blk_alloc ?_ _));exact BK107.out)⟩;have n1_ : Aside0 (Below w.heap.size w wc):=⟨by rw [← hq_];exact (by repeat (first|(with_reducible first|exact HB.out|apply below_alloc|apply pw_below_drewN|apply below_drew1|refine below_set ?_ GE107.out)|exact HB.out))⟩;clear BK107 HB hq_;have BK107:=n0_;have HB:=n1_;clear n0_ n1_));have hcz20_0 : wc.cell? ⟨gb107,0,none⟩ = some (.int .u8 0):=(blk_cell BK107.out 0).trans rfl;have hcz20_1 : wc.cell? ⟨gb107,1,none⟩ = some (.int .i64 0):=(blk_cell BK107.out 1).trans rfl;have hcz20_2 : wc.cell? ⟨gb107,2,none⟩ = some (.string (⟨#[]⟩ : ByteArray)):=(blk_cell BK107.out 2).trans rfl;have hfz20_0:=blk_frozen BK107.out 0;have hfz20_1:=blk_frozen BK107.out 1;have hfz20_2:=blk_frozen BK107.out 2))
                refine bodyPost_ret (results_ct rfl _ _ gb107 59 #[.int .u8 0,.int .i64 0,.string (⟨#[]⟩ : ByteArray)] (0,0) _ rfl (by (with_reducible repeat (first|refine blk_drewN ?_ _|refine blk_drew ?_|refine blk_alloc ?_ _));refine blk_put (cs:=#[.int .u8 0,.int .i64 0,.string (⟨#[]⟩ : ByteArray)]) ?_ 2 _ rfl;(with_reducible repeat (first|refine blk_drewN ?_ _|refine blk_drew ?_|refine blk_alloc ?_ _));refine blk_put (cs:=#[.int .u8 0,.int .i64 0,.string (⟨#[]⟩ : ByteArray)]) ?_ 1 _ rfl;(with_reducible repeat (first|refine blk_drewN ?_ _|refine blk_drew ?_|refine blk_alloc ?_ _));refine blk_put (cs:=#[.int .u8 0,.int .i64 0,.string (⟨#[]⟩ : ByteArray)]) ?_ 0 _ rfl;(with_reducible repeat (first|refine blk_drewN ?_ _|refine blk_drew ?_|refine blk_alloc ?_ _));exact BK107.out) Tryd.underlying59 rfl (by kernel_rfl)) rfl ?_
                exact ⟨by first|rfl|(simp [errW_none,errW_some] <;> rfl)|(simp [*,errW_none,errW_some] <;> rfl),by repeat (first|(with_reducible first|exact HB.out|apply below_alloc|apply pw_below_drewN|apply below_drew1|refine below_set ?_ GE107.out)|exact HB.out)⟩
              · rw [if_neg c19] at H
                have c19b0 : decide ((a0.size : Int) ≤ (wrap64 (t109 + 1))) = false:=decide_eq_false c19
                clear c19
                by_cases c21 : 0 ≤ t109
                · rw [if_pos c21] at H
                  have c21b0 : decide (0 ≤ t109) = true:=decide_eq_true c21
                  clear c21
                  by_cases c22 : t109 < (a0.size : Int)
                  · rw [if_pos c22] at H
                    have c22b0 : decide (t109 < (a0.size : Int)) = true:=decide_eq_true c22
                    clear c22
                    by_cases c24 : (bt a0 t109) = 32
                    · rw [if_pos c24] at H
                      have c24b0 : ((bt a0 t109) == 32) = true:=beq_iff_eq.mpr c24
                      have c24b1 : ((bt a0 t109) != 32) = false:=bne_eq_false_iff_eq.mpr c24
                      clear c24
                      obtain ⟨ji25,hji25⟩ : ∃ j_ : Int,(wrap64 (t109 + 1)) = j_:=⟨_,rfl⟩
                      replace H : (if 0 ≤ (ji25) then (if (ji25) ≤ (a0.size : Int) then (some ((bt a0 0),t108,a0.extract ((ji25) : Int).toNat a0.size,true)) else (none)) else (none)) = some (r1,r2,r3,r4):=by first|(rw [hji25] at H;exact H)|(simp only [hji25] at H ⊢;exact H)
                      (try rw [hji25] at c19b0)
                      (try rw [hji25] at A17)
                      have hji25w : (IntKind.i64.wrap (t109 + 1)) = ji25:=(i64_w _).trans hji25
                      by_cases c26 : 0 ≤ (ji25)
                      · rw [if_pos c26] at H
                        have c26b0:=eq_true c26
                        have c26b1 : decide (0 ≤ (ji25)) = true:=decide_eq_true c26
                        clear c26
                        by_cases c27 : (ji25) ≤ (a0.size : Int)
                        · rw [if_pos c27] at H
                          have c27b0:=eq_true c27
                          have c27b1 : decide ((ji25) ≤ (a0.size : Int)) = true:=decide_eq_true c27
                          clear c27
                          simp only [Option.some.injEq,Prod.mk.injEq] at H
                          obtain ⟨rfl,rfl,rfl,rfl⟩:=H
                          go_wp2_with (first|((with_reducible refine gate_callee (f:=83) rfl ?_);refine goesL_ (some 42) rfl rfl Tryd.func83 (by kernel_rfl) rfl #[.string a0,.int .i64 1] rfl (by (try simp only [List.map_toArray,List.map_cons,List.map_nil]);first|done|rfl|(simp only [List.length_drop,List.length_take];rfl)) ?_;(with_reducible refine (trestleref02_Number0.calls kj6 a0 1 t108 t109 true _ A17.out).mono ?_);rintro e w' ⟨rfl,⟨nd,rfl⟩⟩;refine ⟨_,rfl,?_⟩;(try (rw [drewN_self wc];generalize hq_ : World.drewN wc _ = wc;have n0_ : Aside0 (wc.heap[gb107]? = some (.cells #[.int .u8 0,.int .i64 0,.string (⟨#[]⟩ : ByteArray)] 59 (0,0))):=⟨by rw [← hq_];exact (by (with_reducible repeat (first|refine blk_drewN ?_ _|refine blk_drew ?_|refine blk_alloc ?_ _));exact BK107.out)⟩;have n1_ : Aside0 (Below w.heap.size w wc):=⟨by rw [← hq_];exact (by repeat (first|(with_reducible first|exact HB.out|apply below_alloc|apply pw_below_drewN|apply below_drew1|refine below_set ?_ GE107.out)|exact HB.out))⟩;clear BK107 HB hq_;have BK107:=n0_;have HB:=n1_;clear n0_ n1_));have p23 : 0 ≤ (t109 : Int):=of_decide_eq_true (by first|(with_reducible assumption)|assumption);have q23 : t109 < (a0.size : Int):=of_decide_eq_true (by first|(with_reducible assumption)|assumption);have hx23:=bt_at a0 t109;replace p23:=eq_true p23;replace q23:=eq_true q23;have hcz28_0 : wc.cell? ⟨gb107,0,none⟩ = some (.int .u8 0):=(blk_cell BK107.out 0).trans rfl;have hcz28_1 : wc.cell? ⟨gb107,1,none⟩ = some (.int .i64 0):=(blk_cell BK107.out 1).trans rfl;have hcz28_2 : wc.cell? ⟨gb107,2,none⟩ = some (.string (⟨#[]⟩ : ByteArray)):=(blk_cell BK107.out 2).trans rfl;have hfz28_0:=blk_frozen BK107.out 0;have hfz28_1:=blk_frozen BK107.out 1;have hfz28_2:=blk_frozen BK107.out 2))
                          refine bodyPost_ret (results_ct rfl _ _ gb107 59 #[.int .u8 (bt a0 0),.int .i64 t108,.string (a0.extract ((ji25) : Int).toNat a0.size)] (0,0) _ rfl (by (with_reducible repeat (first|refine blk_drewN ?_ _|refine blk_drew ?_|refine blk_alloc ?_ _));refine blk_put (cs:=#[.int .u8 (bt a0 0),.int .i64 t108,.string (⟨#[]⟩ : ByteArray)]) ?_ 2 _ rfl;(with_reducible repeat (first|refine blk_drewN ?_ _|refine blk_drew ?_|refine blk_alloc ?_ _));refine blk_put (cs:=#[.int .u8 (bt a0 0),.int .i64 0,.string (⟨#[]⟩ : ByteArray)]) ?_ 1 _ rfl;(with_reducible repeat (first|refine blk_drewN ?_ _|refine blk_drew ?_|refine blk_alloc ?_ _));refine blk_put (cs:=#[.int .u8 0,.int .i64 0,.string (⟨#[]⟩ : ByteArray)]) ?_ 0 _ rfl;(with_reducible repeat (first|refine blk_drewN ?_ _|refine blk_drew ?_|refine blk_alloc ?_ _));exact BK107.out) Tryd.underlying59 rfl (by kernel_rfl)) rfl ?_
                          exact ⟨by first|rfl|(simp [errW_none,errW_some] <;> rfl)|(simp only [← hji25];first|rfl|(simp [errW_none,errW_some] <;> rfl))|(simp [*,errW_none,errW_some] <;> rfl),by repeat (first|(with_reducible first|exact HB.out|apply below_alloc|apply pw_below_drewN|apply below_drew1|refine below_set ?_ GE107.out)|exact HB.out)⟩
                        · rw [if_neg c27] at H
                          exact absurd H (by simp)
                      · rw [if_neg c26] at H
                        exact absurd H (by simp)
                    · rw [if_neg c24] at H
                      have c24b0 : ((bt a0 t109) == 32) = false:=beq_eq_false_iff_ne.mpr c24
                      have c24b1 : ((bt a0 t109) != 32) = true:=bne_iff_ne.mpr c24
                      simp only [Option.some.injEq,Prod.mk.injEq] at H
                      obtain ⟨rfl,rfl,rfl,rfl⟩:=H
                      go_wp2_with (first|((with_reducible refine gate_callee (f:=83) rfl ?_);refine goesL_ (some 42) rfl rfl Tryd.func83 (by kernel_rfl) rfl #[.string a0,.int .i64 1] rfl (by (try simp only [List.map_toArray,List.map_cons,List.map_nil]);first|done|rfl|(simp only [List.length_drop,List.length_take];rfl)) ?_;(with_reducible refine (trestleref02_Number0.calls kj6 a0 1 t108 t109 true _ A17.out).mono ?_);rintro e w' ⟨rfl,⟨nd,rfl⟩⟩;refine ⟨_,rfl,?_⟩;(try (rw [drewN_self wc];generalize hq_ : World.drewN wc _ = wc;have n0_ : Aside0 (wc.heap[gb107]? = some (.cells #[.int .u8 0,.int .i64 0,.string (⟨#[]⟩ : ByteArray)] 59 (0,0))):=⟨by rw [← hq_];exact (by (with_reducible repeat (first|refine blk_drewN ?_ _|refine blk_drew ?_|refine blk_alloc ?_ _));exact BK107.out)⟩;have n1_ : Aside0 (Below w.heap.size w wc):=⟨by rw [← hq_];exact (by repeat (first|(with_reducible first|exact HB.out|apply below_alloc|apply pw_below_drewN|apply below_drew1|refine below_set ?_ GE107.out)|exact HB.out))⟩;clear BK107 HB hq_;have BK107:=n0_;have HB:=n1_;clear n0_ n1_));have p23 : 0 ≤ (t109 : Int):=of_decide_eq_true (by first|(with_reducible assumption)|assumption);have q23 : t109 < (a0.size : Int):=of_decide_eq_true (by first|(with_reducible assumption)|assumption);have hx23:=bt_at a0 t109;replace p23:=eq_true p23;replace q23:=eq_true q23;have hcz29_0 : wc.cell? ⟨gb107,0,none⟩ = some (.int .u8 0):=(blk_cell BK107.out 0).trans rfl;have hcz29_1 : wc.cell? ⟨gb107,1,none⟩ = some (.int .i64 0):=(blk_cell BK107.out 1).trans rfl;have hcz29_2 : wc.cell? ⟨gb107,2,none⟩ = some (.string (⟨#[]⟩ : ByteArray)):=(blk_cell BK107.out 2).trans rfl;have hfz29_0:=blk_frozen BK107.out 0;have hfz29_1:=blk_frozen BK107.out 1;have hfz29_2:=blk_frozen BK107.out 2))
                      refine bodyPost_ret (results_ct rfl _ _ gb107 59 #[.int .u8 0,.int .i64 0,.string (⟨#[]⟩ : ByteArray)] (0,0) _ rfl (by (with_reducible repeat (first|refine blk_drewN ?_ _|refine blk_drew ?_|refine blk_alloc ?_ _));refine blk_put (cs:=#[.int .u8 0,.int .i64 0,.string (⟨#[]⟩ : ByteArray)]) ?_ 2 _ rfl;(with_reducible repeat (first|refine blk_drewN ?_ _|refine blk_drew ?_|refine blk_alloc ?_ _));refine blk_put (cs:=#[.int .u8 0,.int .i64 0,.string (⟨#[]⟩ : ByteArray)]) ?_ 1 _ rfl;(with_reducible repeat (first|refine blk_drewN ?_ _|refine blk_drew ?_|refine blk_alloc ?_ _));refine blk_put (cs:=#[.int .u8 0,.int .i64 0,.string (⟨#[]⟩ : ByteArray)]) ?_ 0 _ rfl;(with_reducible repeat (first|refine blk_drewN ?_ _|refine blk_drew ?_|refine blk_alloc ?_ _));exact BK107.out) Tryd.underlying59 rfl (by kernel_rfl)) rfl ?_
                      exact ⟨by first|rfl|(simp [errW_none,errW_some] <;> rfl)|(simp [*,errW_none,errW_some] <;> rfl),by repeat (first|(with_reducible first|exact HB.out|apply below_alloc|apply pw_below_drewN|apply below_drew1|refine below_set ?_ GE107.out)|exact HB.out)⟩
                  · rw [if_neg c22] at H
                    exact absurd H (by simp)
                · rw [if_neg c21] at H
                  exact absurd H (by simp)
            · replace c18:=Bool.eq_false_iff.mpr c18
              subst c18
              have H1 : (some (0,0,(⟨#[]⟩ : ByteArray),false)) = some (r1,r2,r3,r4):=by rw [if_neg (show ¬ (false = true) by decide)] at H;exact H
              clear H
              have H:=H1
              clear H1
              simp only [Option.some.injEq,Prod.mk.injEq] at H
              obtain ⟨rfl,rfl,rfl,rfl⟩:=H
              go_wp2_with (first|((with_reducible refine gate_callee (f:=83) rfl ?_);refine goesL_ (some 42) rfl rfl Tryd.func83 (by kernel_rfl) rfl #[.string a0,.int .i64 1] rfl (by (try simp only [List.map_toArray,List.map_cons,List.map_nil]);first|done|rfl|(simp only [List.length_drop,List.length_take];rfl)) ?_;(with_reducible refine (trestleref02_Number0.calls kj6 a0 1 t108 t109 false _ A17.out).mono ?_);rintro e w' ⟨rfl,⟨nd,rfl⟩⟩;refine ⟨_,rfl,?_⟩;(try (rw [drewN_self wc];generalize hq_ : World.drewN wc _ = wc;have n0_ : Aside0 (wc.heap[gb107]? = some (.cells #[.int .u8 0,.int .i64 0,.string (⟨#[]⟩ : ByteArray)] 59 (0,0))):=⟨by rw [← hq_];exact (by (with_reducible repeat (first|refine blk_drewN ?_ _|refine blk_drew ?_|refine blk_alloc ?_ _));exact BK107.out)⟩;have n1_ : Aside0 (Below w.heap.size w wc):=⟨by rw [← hq_];exact (by repeat (first|(with_reducible first|exact HB.out|apply below_alloc|apply pw_below_drewN|apply below_drew1|refine below_set ?_ GE107.out)|exact HB.out))⟩;clear BK107 HB hq_;have BK107:=n0_;have HB:=n1_;clear n0_ n1_));have hcz30_0 : wc.cell? ⟨gb107,0,none⟩ = some (.int .u8 0):=(blk_cell BK107.out 0).trans rfl;have hcz30_1 : wc.cell? ⟨gb107,1,none⟩ = some (.int .i64 0):=(blk_cell BK107.out 1).trans rfl;have hcz30_2 : wc.cell? ⟨gb107,2,none⟩ = some (.string (⟨#[]⟩ : ByteArray)):=(blk_cell BK107.out 2).trans rfl;have hfz30_0:=blk_frozen BK107.out 0;have hfz30_1:=blk_frozen BK107.out 1;have hfz30_2:=blk_frozen BK107.out 2))
              refine bodyPost_ret (results_ct rfl _ _ gb107 59 #[.int .u8 0,.int .i64 0,.string (⟨#[]⟩ : ByteArray)] (0,0) _ rfl (by (with_reducible repeat (first|refine blk_drewN ?_ _|refine blk_drew ?_|refine blk_alloc ?_ _));refine blk_put (cs:=#[.int .u8 0,.int .i64 0,.string (⟨#[]⟩ : ByteArray)]) ?_ 2 _ rfl;(with_reducible repeat (first|refine blk_drewN ?_ _|refine blk_drew ?_|refine blk_alloc ?_ _));refine blk_put (cs:=#[.int .u8 0,.int .i64 0,.string (⟨#[]⟩ : ByteArray)]) ?_ 1 _ rfl;(with_reducible repeat (first|refine blk_drewN ?_ _|refine blk_drew ?_|refine blk_alloc ?_ _));refine blk_put (cs:=#[.int .u8 0,.int .i64 0,.string (⟨#[]⟩ : ByteArray)]) ?_ 0 _ rfl;(with_reducible repeat (first|refine blk_drewN ?_ _|refine blk_drew ?_|refine blk_alloc ?_ _));exact BK107.out) Tryd.underlying59 rfl (by kernel_rfl)) rfl ?_
              exact ⟨by first|rfl|(simp [errW_none,errW_some] <;> rfl)|(simp [*,errW_none,errW_some] <;> rfl),by repeat (first|(with_reducible first|exact HB.out|apply below_alloc|apply pw_below_drewN|apply below_drew1|refine below_set ?_ GE107.out)|exact HB.out)⟩
    · rw [if_neg c5] at H
      exact absurd H (by simp)
mutual
def trestleref04_Tail.j0 : Nat → ByteArray → Int → Bool → Option ((List (S59)) × List ByteArray × Int × Int)
  | 0,_,_,_ => none
  | k + 1,x0,x1,x26 => if x26 = true then ((trestleref04_fault.f 0 1).bind fun bt114 => (some (([] : List (S59)),([] : List ByteArray),bt114.1,bt114.2))) else (trestleref04_Tail.l0 k x0 x1 ([] : List (S59)) ([] : List ByteArray) false)
def trestleref04_Tail.l0 : Nat → ByteArray → Int → List (S59) → List ByteArray → Bool → Option ((List (S59)) × List ByteArray × Int × Int)
  | 0,_,_,_,_,_ => none
  | k + 1,x0,x1,x7,x8,x9 => if x1 < (x0.size : Int) then ((trestleref04_Line.f k x0 x1).bind fun bt116 => (if bt116.2.2 = true then (if x9 = true then (if x8.length < 8796093022208 then (trestleref04_Tail.l0 k x0 bt116.2.1 x7 (x8 ++ [bt116.1]) x9) else (none)) else (if bt116.1.toList = ([99] : List UInt8) then (trestleref04_Tail.l0 k x0 bt116.2.1 x7 x8 true) else ((trestleref04_symbol.f k bt116.1).bind fun bt124 => (if bt124.2.2.2 = true then (if x7.length < 4398046511104 then (trestleref04_Tail.l0 k x0 bt116.2.1 (x7 ++ [(⟨bt124.1,bt124.2.1,bt124.2.2.1⟩ : S59)]) x8 x9) else (none)) else ((trestleref04_fault.f x1 42).bind fun bt132 => (some (([] : List (S59)),([] : List ByteArray),bt132.1,bt132.2))))))) else ((trestleref04_fault.f x1 42).bind fun bt119 => (some (([] : List (S59)),([] : List ByteArray),bt119.1,bt119.2))))) else (some (x7,x8,0,0))
end
def trestleref04_Tail.f (k : Nat) (a0 : ByteArray) (a1 : Int) : Option ((List (S59)) × List ByteArray × Int × Int):=if (a0.size : Int) > 262144 then ((trestleref04_fault.f 0 2).bind fun bt112 => (some (([] : List (S59)),([] : List ByteArray),bt112.1,bt112.2))) else (if a1 < 0 then (trestleref04_Tail.j0 k a0 a1 true) else (trestleref04_Tail.j0 k a0 a1 (decide (a1 > (a0.size : Int)))))
set_option maxHeartbeats 8000000 in
set_option maxRecDepth 100000 in
theorem trestleref04_Tail.calls (k : Nat) (a0 : ByteArray) (a1 : Int) (r1 : List (S59)) (r2 : List ByteArray) (r3 : Int) (r4 : Int) (w : World) (h : trestleref04_Tail.f k a0 a1 = some (r1,r2,r3,r4)) :
    Calls Tryd.prog 27 #[.string a0,.int .i64 a1] w fun e w' => ∃ v0_ v1_ : Value,e = .returned (.tuple #[v0_,v1_,.agg #[.int .i64 r3,.int .i64 r4]]) ∧ Kd.R k59 59 w' w.heap.size (fun _ => True) v0_ r1 ∧ Kd.R Kd.string 9 w' w.heap.size (fun _ => True) v1_ r2 ∧ Below w.heap.size w w':=by
  have hu40:=Tryd.underlying40
  have hu59:=Tryd.underlying59
  have HB:=Aside0.mk (Below.refl w.heap.size w)
  have H : (if (a0.size : Int) > 262144 then ((trestleref04_fault.f 0 2).bind fun bt112 => (some (([] : List (S59)),([] : List ByteArray),bt112.1,bt112.2))) else (if a1 < 0 then (trestleref04_Tail.j0 k a0 a1 true) else (trestleref04_Tail.j0 k a0 a1 (decide (a1 > (a0.size : Int)))))) = some (r1,r2,r3,r4):=h
  clear h
  by_cases c3 : (a0.size : Int) > 262144
  · rw [if_pos c3] at H
    have c3b0 : decide (262144 < (a0.size : Int)) = true:=decide_eq_true c3
    have c3b1 : decide (262144 < a0.size) = true:=decide_eq_true (by omega)
    have c3b2 : 262144 < a0.size:=by omega
    clear c3
    replace H:=Option.bind_eq_some_iff.mp H
    obtain ⟨⟨t112,t113⟩,A40,H⟩:=H
    replace H : (some (([] : List (S59)),([] : List ByteArray),t112,t113)) = some (r1,r2,r3,r4):=H
    have A4:=Aside0.mk A40
    clear A40
    simp only [Option.some.injEq,Prod.mk.injEq] at H
    obtain ⟨rfl,rfl,rfl,rfl⟩:=H
    go_enter Tryd.func27,Tryd.ntmps27
    go_wp2_with (first|((with_reducible refine gate_dst (N:=6) rfl ?_);(try (refine gate_guard (by rfl) ?_;dsimp only));refine box_event ?hg (N:=6) ?hd (cs:=#[.int .i64 0,.int .i64 0]) (t:=40) ?hr ?_;(case hd => rfl);(case hg => rfl);(case hr => first|(go_simp;done)|(go_simp;rfl));intro gb111 hg w5 hbox hb;have n0_:=Aside0.mk (below_step (by repeat (first|(with_reducible first|exact HB.out|apply below_alloc|apply pw_below_drewN|apply below_drew1)|exact HB.out)) hb);have n1_:=Aside0.mk (hbox);have n2_:=Aside0.mk ((by rw [hg];exact (below_size (by repeat (first|(with_reducible first|exact HB.out|apply below_alloc|apply pw_below_drewN|apply below_drew1)|exact HB.out))) : w.heap.size ≤ gb111));have n3_:=Aside0.mk ((by rw [hg];exact (below_size (by repeat (first|(with_reducible first|exact HB.out|apply below_alloc|apply pw_below_drewN|apply below_drew1)|exact HB.out))) : w.heap.size ≤ gb111));clear HB;have HB:=n0_;have BK111:=n1_;have GW111:=n2_;have GE111:=n3_;clear n0_ n1_ n2_ n3_;clear hb hbox hg)|((with_reducible refine gate_callee (f:=51) rfl ?_);refine goesL_ (some 18) rfl rfl Tryd.func51 (by kernel_rfl) rfl #[.int .i64 0,.int .i64 2] rfl (by (try simp only [List.map_toArray,List.map_cons,List.map_nil]);first|done|rfl|(simp only [List.length_drop,List.length_take];rfl)) ?_;(with_reducible refine (trestleref04_fault.calls 0 2 t112 t113 _ A4.out).mono ?_);rintro e w6 ⟨rfl,hb⟩;refine ⟨_,rfl,?_⟩;have n0_:=Aside0.mk (blk_below (g:=gb111) (o:=.cells #[.int .i64 0,.int .i64 0] 40 (0,0)) (by (with_reducible repeat (first|refine blk_drewN ?_ _|refine blk_drew ?_|refine blk_alloc ?_ _));exact BK111.out) hb);have n1_:=Aside0.mk (below_step (by repeat (first|(with_reducible first|exact HB.out|apply below_alloc|apply pw_below_drewN|apply below_drew1|refine below_set ?_ GE111.out)|exact HB.out)) hb);clear BK111;clear HB;have BK111:=n0_;have HB:=n1_;clear n0_ n1_;(try clear hb);(try clear hb2);(try clear hk);(try clear hi);have hcz7_0 : w6.cell? ⟨gb111,0,none⟩ = some (.int .i64 0):=(blk_cell BK111.out 0).trans rfl;have hcz7_1 : w6.cell? ⟨gb111,1,none⟩ = some (.int .i64 0):=(blk_cell BK111.out 1).trans rfl;have hfz7_0:=blk_frozen BK111.out 0;have hfz7_1:=blk_frozen BK111.out 1))
    refine bodyPost_ret (results_list (rs:=[.tmp 4,.tmp 5,.cell 6 40]) rfl (by simp) (.tmp (.tmp (.cell gb111 40 #[.int .i64 t112,.int .i64 t113] (0,0) _ rfl (by (with_reducible repeat (first|refine blk_drewN ?_ _|refine blk_drew ?_|refine blk_alloc ?_ _));refine blk_put (cs:=#[.int .i64 t112,.int .i64 0]) ?_ 1 _ rfl;(with_reducible repeat (first|refine blk_drewN ?_ _|refine blk_drew ?_|refine blk_alloc ?_ _));refine blk_put (cs:=#[.int .i64 0,.int .i64 0]) ?_ 0 _ rfl;(with_reducible repeat (first|refine blk_drewN ?_ _|refine blk_drew ?_|refine blk_alloc ?_ _));exact BK111.out) Tryd.underlying40 rfl (by kernel_rfl) .nil)))) rfl ?_
    exact ⟨_,_,by first|rfl|(simp [errW_none,errW_some] <;> rfl)|(simp [*,errW_none,errW_some] <;> rfl),by first|exact Kd.R_nil _ _ _ _ _|exact Kd.N_nil _ _ _ _ _|exact Kd.V_nil _ _ _ _ _|exact Kd.Q_nil _ _ _ _ _|exact Kd.S_nil _ _ _ _ _,by first|exact Kd.R_nil _ _ _ _ _|exact Kd.N_nil _ _ _ _ _|exact Kd.V_nil _ _ _ _ _|exact Kd.Q_nil _ _ _ _ _|exact Kd.S_nil _ _ _ _ _,by repeat (first|(with_reducible first|exact HB.out|apply below_alloc|apply pw_below_drewN|apply below_drew1|refine below_set ?_ GE111.out)|exact HB.out)⟩
  · rw [if_neg c3] at H
    have c3b0 : decide (262144 < (a0.size : Int)) = false:=decide_eq_false c3
    have c3b1 : decide (262144 < a0.size) = false:=decide_eq_false (by omega)
    have c3b2 : ¬ (262144 < a0.size):=by omega
    clear c3
    have HC8:=Aside0.mk H
    clear H
    go_enter Tryd.func27,Tryd.ntmps27
    go_upto_region 3 with (first|((with_reducible refine gate_dst (N:=6) rfl ?_);(try (refine gate_guard (by rfl) ?_;dsimp only));refine box_event ?hg (N:=6) ?hd (cs:=#[.int .i64 0,.int .i64 0]) (t:=40) ?hr ?_;(case hd => rfl);(case hg => rfl);(case hr => first|(go_simp;done)|(go_simp;rfl));intro gb111 hg w9 hbox hb;have n0_:=Aside0.mk (below_step (by repeat (first|(with_reducible first|exact HB.out|apply below_alloc|apply pw_below_drewN|apply below_drew1)|exact HB.out)) hb);have n1_:=Aside0.mk (hbox);have n2_:=Aside0.mk ((by rw [hg];exact (below_size (by repeat (first|(with_reducible first|exact HB.out|apply below_alloc|apply pw_below_drewN|apply below_drew1)|exact HB.out))) : w.heap.size ≤ gb111));have n3_:=Aside0.mk ((by rw [hg];exact (below_size (by repeat (first|(with_reducible first|exact HB.out|apply below_alloc|apply pw_below_drewN|apply below_drew1)|exact HB.out))) : w.heap.size ≤ gb111));clear HB;have HB:=n0_;have BK111:=n1_;have GW111:=n2_;have GE111:=n3_;clear n0_ n1_ n2_ n3_;clear hb hbox hg))
    (try simp only [Act.put,List.setIfInBounds_toArray,List.set_cons_zero,List.set_cons_succ])
    go_cut [26] (fun v26 wc => ∃ (kq : Nat) (x26_7 : Bool),v26 = .bool x26_7 ∧ Aside0 (trestleref04_Tail.j0 kq a0 a1 x26_7 = some (r1,r2,r3,r4)) ∧ Aside0 (kq ≤ k) ∧ Aside0 (wc.heap[gb111]? = some (.cells #[.int .i64 0,.int .i64 0] 40 (0,0))) ∧ Aside0 (Below w.heap.size w wc))
    case first =>
      have H:=HC8.out
      clear HC8
      by_cases c10 : a1 < 0
      · rw [if_pos c10] at H
        have c10b0 : decide (a1 < 0) = true:=decide_eq_true c10
        clear c10
        (first|rw [c10b0]|(simp only [i64_w,i32_w];rw [c10b0])|skip)
        have H':=Aside0.mk H
        clear H
        go_wp2
        go_meet
        case rel => exact ⟨_,(true),(by first|rfl|(simp;done)|(simp [*];done)),H',⟨by first|omega|exact Nat.le_refl _⟩,⟨by (with_reducible repeat (first|refine blk_drewN ?_ _|refine blk_drew ?_|refine blk_alloc ?_ _));exact BK111.out⟩,⟨by repeat (first|(with_reducible first|exact HB.out|apply below_alloc|apply pw_below_drewN|apply below_drew1|refine below_set ?_ GE111.out)|exact HB.out)⟩⟩
      · rw [if_neg c10] at H
        have c10b0 : decide (a1 < 0) = false:=decide_eq_false c10
        clear c10
        (first|rw [c10b0]|(simp only [i64_w,i32_w];rw [c10b0])|skip)
        have H':=Aside0.mk H
        clear H
        go_wp2
        go_meet
        case rel => exact ⟨_,(decide (a1 > (a0.size : Int))),(by first|rfl|(simp;done)|(simp [*];done)),H',⟨by first|omega|exact Nat.le_refl _⟩,⟨by (with_reducible repeat (first|refine blk_drewN ?_ _|refine blk_drew ?_|refine blk_alloc ?_ _));exact BK111.out⟩,⟨by repeat (first|(with_reducible first|exact HB.out|apply below_alloc|apply pw_below_drewN|apply below_drew1|refine below_set ?_ GE111.out)|exact HB.out)⟩⟩
    case rest =>
      clear HC8
      try clear c1
      try clear c2
      try clear p2
      try clear c3
      try clear c3b0
      try clear c3b1
      try clear c3b2
      try clear c5
      try clear c10
      try clear c10b0
      try clear hcz7_0
      try clear hcz7_1
      try clear hfz7_0
      try clear hfz7_1
      obtain ⟨kq,x26_7,rfl,HA,HJ7,BK111,HB⟩:=hcut
      cases kq with
      | zero => exact absurd HA.out (by simp [trestleref04_Tail.j0])
      | succ kj7 =>
        have H:=HA.out
        clear HA
        simp only [trestleref04_Tail.j0] at H
        by_cases c11 : x26_7 = true
        · subst c11
          have H1 : ((trestleref04_fault.f 0 1).bind fun bt114 => (some (([] : List (S59)),([] : List ByteArray),bt114.1,bt114.2))) = some (r1,r2,r3,r4):=by rw [if_pos rfl] at H;exact H
          clear H
          have H:=H1
          clear H1
          replace H:=Option.bind_eq_some_iff.mp H
          obtain ⟨⟨t114,t115⟩,A120,H⟩:=H
          replace H : (some (([] : List (S59)),([] : List ByteArray),t114,t115)) = some (r1,r2,r3,r4):=H
          have A12:=Aside0.mk A120
          clear A120
          simp only [Option.some.injEq,Prod.mk.injEq] at H
          obtain ⟨rfl,rfl,rfl,rfl⟩:=H
          go_wp2_with (first|((with_reducible refine gate_callee (f:=51) rfl ?_);refine goesL_ (some 27) rfl rfl Tryd.func51 (by kernel_rfl) rfl #[.int .i64 0,.int .i64 1] rfl (by (try simp only [List.map_toArray,List.map_cons,List.map_nil]);first|done|rfl|(simp only [List.length_drop,List.length_take];rfl)) ?_;(with_reducible refine (trestleref04_fault.calls 0 1 t114 t115 _ A12.out).mono ?_);rintro e w13 ⟨rfl,hb⟩;refine ⟨_,rfl,?_⟩;have n0_:=Aside0.mk (blk_below (g:=gb111) (o:=.cells #[.int .i64 0,.int .i64 0] 40 (0,0)) (by (with_reducible repeat (first|refine blk_drewN ?_ _|refine blk_drew ?_|refine blk_alloc ?_ _));exact BK111.out) hb);have n1_:=Aside0.mk (below_step (by repeat (first|(with_reducible first|exact HB.out|apply below_alloc|apply pw_below_drewN|apply below_drew1|refine below_set ?_ GE111.out)|exact HB.out)) hb);clear BK111;clear HB;have BK111:=n0_;have HB:=n1_;clear n0_ n1_;(try clear hb);(try clear hb2);(try clear hk);(try clear hi);have hcz14_0 : w13.cell? ⟨gb111,0,none⟩ = some (.int .i64 0):=(blk_cell BK111.out 0).trans rfl;have hcz14_1 : w13.cell? ⟨gb111,1,none⟩ = some (.int .i64 0):=(blk_cell BK111.out 1).trans rfl;have hfz14_0:=blk_frozen BK111.out 0;have hfz14_1:=blk_frozen BK111.out 1))
          refine bodyPost_ret (results_list (rs:=[.tmp 4,.tmp 5,.cell 6 40]) rfl (by simp) (.tmp (.tmp (.cell gb111 40 #[.int .i64 t114,.int .i64 t115] (0,0) _ rfl (by (with_reducible repeat (first|refine blk_drewN ?_ _|refine blk_drew ?_|refine blk_alloc ?_ _));refine blk_put (cs:=#[.int .i64 t114,.int .i64 0]) ?_ 1 _ rfl;(with_reducible repeat (first|refine blk_drewN ?_ _|refine blk_drew ?_|refine blk_alloc ?_ _));refine blk_put (cs:=#[.int .i64 0,.int .i64 0]) ?_ 0 _ rfl;(with_reducible repeat (first|refine blk_drewN ?_ _|refine blk_drew ?_|refine blk_alloc ?_ _));exact BK111.out) Tryd.underlying40 rfl (by kernel_rfl) .nil)))) rfl ?_
          exact ⟨_,_,by first|rfl|(simp [errW_none,errW_some] <;> rfl)|(simp [*,errW_none,errW_some] <;> rfl),by first|exact Kd.R_nil _ _ _ _ _|exact Kd.N_nil _ _ _ _ _|exact Kd.V_nil _ _ _ _ _|exact Kd.Q_nil _ _ _ _ _|exact Kd.S_nil _ _ _ _ _,by first|exact Kd.R_nil _ _ _ _ _|exact Kd.N_nil _ _ _ _ _|exact Kd.V_nil _ _ _ _ _|exact Kd.Q_nil _ _ _ _ _|exact Kd.S_nil _ _ _ _ _,by repeat (first|(with_reducible first|exact HB.out|apply below_alloc|apply pw_below_drewN|apply below_drew1|refine below_set ?_ GE111.out)|exact HB.out)⟩
        · replace c11:=Bool.eq_false_iff.mpr c11
          subst c11
          have H1 : (trestleref04_Tail.l0 kj7 a0 a1 ([] : List (S59)) ([] : List ByteArray) false) = some (r1,r2,r3,r4):=by rw [if_neg (show ¬ (false = true) by decide)] at H;exact H
          clear H
          have H:=H1
          clear H1
          have H':=Aside0.mk H
          clear H
          go_wp2
          (try simp only [Act.put,List.setIfInBounds_toArray,List.set_cons_zero,List.set_cons_succ])
          go_loopg [1,7,8,9] kj7 (fun kq v1 v7 v8 v9 w' => ∃ (x1_2 : Int) (x7_2 : List (S59)) (x8_2 : List ByteArray) (x9_2 : Bool) (x112000_2 : Int) (x112001_2 : Int),v1 = .int .i64 x1_2 ∧ v9 = .bool x9_2 ∧ Aside0 (trestleref04_Tail.l0 kq a0 x1_2 x7_2 x8_2 x9_2 = some (r1,r2,r3,r4)) ∧ Aside0 (kq ≤ kj7) ∧ Aside0 (Kd.R k59 59 w' w.heap.size (fun _ => True) v7 x7_2) ∧ Aside0 (Kd.R Kd.string 9 w' w.heap.size (fun _ => True) v8 x8_2) ∧ Aside0 (w'.heap[gb111]? = some (.cells #[.int .i64 x112000_2,.int .i64 x112001_2] 40 (0,0))) ∧ Aside0 (Below w.heap.size w w'))
          case atStart => exact ⟨(a1),(([] : List (S59))),(([] : List ByteArray)),(false),(0),(0),(by first|rfl|(simp;done)|(simp [*];done)),(by first|rfl|(simp;done)|(simp [*];done)),H',⟨Nat.le_refl _⟩,⟨by first|exact Kd.R_nil _ _ _ _ _|exact Kd.N_nil _ _ _ _ _|exact Kd.V_nil _ _ _ _ _|exact Kd.Q_nil _ _ _ _ _|exact Kd.S_nil _ _ _ _ _⟩,⟨by first|exact Kd.R_nil _ _ _ _ _|exact Kd.N_nil _ _ _ _ _|exact Kd.V_nil _ _ _ _ _|exact Kd.Q_nil _ _ _ _ _|exact Kd.S_nil _ _ _ _ _⟩,⟨by (with_reducible repeat (first|refine blk_drewN ?_ _|refine blk_drew ?_|refine blk_alloc ?_ _));exact BK111.out⟩,⟨by repeat (first|(with_reducible first|exact HB.out|apply below_alloc|apply pw_below_drewN|apply below_drew1|refine below_set ?_ GE111.out)|exact HB.out)⟩⟩
          case round =>
            clear H'
            try clear c1
            try clear c2
            try clear p2
            try clear c3
            try clear c3b0
            try clear c3b1
            try clear c3b2
            try clear c5
            try clear c10
            try clear c10b0
            try clear c11
            try clear hcz14_0
            try clear hcz14_1
            try clear hcz7_0
            try clear hcz7_1
            try clear hfz14_0
            try clear hfz14_1
            try clear hfz7_0
            try clear hfz7_1
            try clear p2
            obtain ⟨x1_2,x7_2,x8_2,x9_2,x112000_2,x112001_2,rfl,rfl,HA,HK2,HO_7,HO_8,BK111,HB⟩:=hrel
            cases gk with
            | zero => exact absurd HA.out (by simp [trestleref04_Tail.l0])
            | succ k2 =>
              have H:=HA.out
              clear HA
              simp only [trestleref04_Tail.l0] at H
              by_cases c15 : x1_2 < (a0.size : Int)
              · rw [if_pos c15] at H
                have c15b0 : decide (x1_2 < (a0.size : Int)) = true:=decide_eq_true c15
                clear c15
                replace H:=Option.bind_eq_some_iff.mp H
                obtain ⟨⟨t116,t117,t118⟩,A160,H⟩:=H
                replace H : (if t118 = true then (if x9_2 = true then (if x8_2.length < 8796093022208 then (trestleref04_Tail.l0 k2 a0 t117 x7_2 (x8_2 ++ [t116]) x9_2) else (none)) else (if t116.toList = ([99] : List UInt8) then (trestleref04_Tail.l0 k2 a0 t117 x7_2 x8_2 true) else ((trestleref04_symbol.f k2 t116).bind fun bt124 => (if bt124.2.2.2 = true then (if x7_2.length < 4398046511104 then (trestleref04_Tail.l0 k2 a0 t117 (x7_2 ++ [(⟨bt124.1,bt124.2.1,bt124.2.2.1⟩ : S59)]) x8_2 x9_2) else (none)) else ((trestleref04_fault.f x1_2 42).bind fun bt132 => (some (([] : List (S59)),([] : List ByteArray),bt132.1,bt132.2))))))) else ((trestleref04_fault.f x1_2 42).bind fun bt119 => (some (([] : List (S59)),([] : List ByteArray),bt119.1,bt119.2)))) = some (r1,r2,r3,r4):=H
                have A16:=Aside0.mk A160
                clear A160
                by_cases c17 : t118 = true
                · subst c17
                  have H1 : (if x9_2 = true then (if x8_2.length < 8796093022208 then (trestleref04_Tail.l0 k2 a0 t117 x7_2 (x8_2 ++ [t116]) x9_2) else (none)) else (if t116.toList = ([99] : List UInt8) then (trestleref04_Tail.l0 k2 a0 t117 x7_2 x8_2 true) else ((trestleref04_symbol.f k2 t116).bind fun bt124 => (if bt124.2.2.2 = true then (if x7_2.length < 4398046511104 then (trestleref04_Tail.l0 k2 a0 t117 (x7_2 ++ [(⟨bt124.1,bt124.2.1,bt124.2.2.1⟩ : S59)]) x8_2 x9_2) else (none)) else ((trestleref04_fault.f x1_2 42).bind fun bt132 => (some (([] : List (S59)),([] : List ByteArray),bt132.1,bt132.2))))))) = some (r1,r2,r3,r4):=by rw [if_pos rfl] at H;exact H
                  clear H
                  have H:=H1
                  clear H1
                  by_cases c18 : x9_2 = true
                  · subst c18
                    have H1 : (if x8_2.length < 8796093022208 then (trestleref04_Tail.l0 k2 a0 t117 x7_2 (x8_2 ++ [t116]) true) else (none)) = some (r1,r2,r3,r4):=by rw [if_pos rfl] at H;exact H
                    clear H
                    have H:=H1
                    clear H1
                    by_cases c19 : x8_2.length < 8796093022208
                    · rw [if_pos c19] at H
                      have LMc19:=Aside0.mk c19
                      clear c19
                      obtain ⟨y121,hy121⟩ : ∃ y_ : List ByteArray,y_ = (x8_2 ++ [t116]):=⟨_,rfl⟩
                      replace H : (trestleref04_Tail.l0 k2 a0 t117 x7_2 y121 true) = some (r1,r2,r3,r4):=by first|(rw [hy121];with_reducible exact H)|(have H2_:=(Option.bind_some _ _).symm.trans H;rw [hy121];with_reducible exact H2_)|(have H2_:=(Option.bind_some _ _).symm.trans H;with_reducible exact H2_)|with_reducible exact H|(rw [hy121];exact H)|exact H
                      have Ny121:=Aside0.mk hy121
                      clear hy121
                      have H':=Aside0.mk H
                      clear H
                      go_wp2_with (first|((with_reducible refine gate_callee (f:=57) rfl ?_);refine goesL_ (some 35) rfl rfl Tryd.func57 (by kernel_rfl) rfl #[.string a0,.int .i64 x1_2] rfl (by (try simp only [List.map_toArray,List.map_cons,List.map_nil]);first|done|rfl|(simp only [List.length_drop,List.length_take];rfl)) ?_;(with_reducible refine (trestleref04_Line.calls k2 a0 x1_2 t116 t117 true _ A16.out).mono ?_);rintro e w' ⟨rfl,⟨nd,rfl⟩⟩;refine ⟨_,rfl,?_⟩)|((with_reducible refine gate_builtin (b:=.append) (xs:=#[.tmp 44,.tmp 46]) rfl ?_);(try (refine gate_guard (by rfl) ?_;dsimp only));at_builtin;refine Kd.R_append Kd.string (w0:=w) w.heap.size rfl (.tmp 44) (.tmp 46) 54 9 (.string ⟨#[]⟩) 16 rfl Tryd.underlying54 info9 rfl (by decide) (by omega) u8 x8_2 t116 [.string t116] (fun _ => True) (fun _ => False) rfl rfl ?aP (fun _ hk => hk.elim) ?aF ?aO ?aB ?aS ?aL ?_;(case aP => exact rfl);(case aB => exact (by repeat (first|(with_reducible first|exact HB.out|apply below_alloc|apply pw_below_drewN|apply below_drew1|refine below_set ?_ GE111.out)|exact HB.out)));(case aF => exact (fun _ _ => trivial));(case aO => exact (by (with_reducible repeat (first|apply Kd.R_alloc|apply Kd.R_drewN|apply Kd.R_drew));exact HO_8.out));(case aS => exact (below_size (by repeat (first|(with_reducible first|exact HB.out|apply below_alloc|apply pw_below_drewN|apply below_drew1|refine below_set ?_ GE111.out)|exact HB.out))));(case aL => have:=LMc19.out;omega);intro v122 w20 ho hb hg hat;rw [← Ny121.out] at ho;have n0_:=Aside0.mk (Kd.R_over' (by (with_reducible repeat (first|apply Kd.R_alloc|apply Kd.R_drewN|apply Kd.R_drew));exact HO_7.out) (Kd.R_typed (by (with_reducible repeat (first|apply Kd.R_alloc|apply Kd.R_drewN|apply Kd.R_drew));exact HO_8.out)) (by decide) hg);have n1_:=Aside0.mk (blk_grown (g:=gb111) (o:=.cells #[.int .i64 x112000_2,.int .i64 x112001_2] 40 (0,0)) (by (with_reducible repeat (first|refine blk_drewN ?_ _|refine blk_drew ?_|refine blk_alloc ?_ _));exact BK111.out) hg (Kd.R_ne HO_8.out BK111.out (by decide)));have n2_:=Aside0.mk (hb);have n3_:=Aside0.mk (ho);clear HO_7;clear BK111;clear HB;clear HO_8;have HO_7:=n0_;have BK111:=n1_;have HB:=n2_;have HO123:=n3_;clear n0_ n1_ n2_ n3_;clear ho hb hg hat))
                      go_roundg k2
                      case measure => have:=HJ7.out;have:=HK2.out;omega
                      case rel => exact ⟨(t117),(x7_2),(y121),(true),(x112000_2),(x112001_2),(by first|rfl|(simp;done)|(simp [*];done)),(by first|rfl|(simp;done)|(simp [*];done)),H',⟨by have:=HJ7.out;have:=HK2.out;omega⟩,⟨by (with_reducible repeat (first|apply Kd.R_alloc|apply Kd.R_drewN|apply Kd.R_drew));exact HO_7.out⟩,⟨by (with_reducible repeat (first|apply Kd.R_alloc|apply Kd.R_drewN|apply Kd.R_drew));exact HO123.out⟩,⟨by (with_reducible repeat (first|refine blk_drewN ?_ _|refine blk_drew ?_|refine blk_alloc ?_ _));exact BK111.out⟩,⟨by repeat (first|(with_reducible first|exact HB.out|apply below_alloc|apply pw_below_drewN|apply below_drew1|refine below_set ?_ GE111.out)|exact HB.out)⟩⟩
                    · rw [if_neg c19] at H
                      exact absurd H (by simp)
                  · replace c18:=Bool.eq_false_iff.mpr c18
                    subst c18
                    have H1 : (if t116.toList = ([99] : List UInt8) then (trestleref04_Tail.l0 k2 a0 t117 x7_2 x8_2 true) else ((trestleref04_symbol.f k2 t116).bind fun bt124 => (if bt124.2.2.2 = true then (if x7_2.length < 4398046511104 then (trestleref04_Tail.l0 k2 a0 t117 (x7_2 ++ [(⟨bt124.1,bt124.2.1,bt124.2.2.1⟩ : S59)]) x8_2 false) else (none)) else ((trestleref04_fault.f x1_2 42).bind fun bt132 => (some (([] : List (S59)),([] : List ByteArray),bt132.1,bt132.2)))))) = some (r1,r2,r3,r4):=by rw [if_neg (show ¬ (false = true) by decide)] at H;exact H
                    clear H
                    have H:=H1
                    clear H1
                    by_cases c21 : t116.toList = ([99] : List UInt8)
                    · rw [if_pos c21] at H
                      have c21b0 : (t116.toList == ([99] : List UInt8)) = true:=beq_iff_eq.mpr c21
                      have c21b1 : (t116.toList != ([99] : List UInt8)) = false:=bne_eq_false_iff_eq.mpr c21
                      clear c21
                      have H':=Aside0.mk H
                      clear H
                      go_wp2_with (first|((with_reducible refine gate_callee (f:=57) rfl ?_);refine goesL_ (some 35) rfl rfl Tryd.func57 (by kernel_rfl) rfl #[.string a0,.int .i64 x1_2] rfl (by (try simp only [List.map_toArray,List.map_cons,List.map_nil]);first|done|rfl|(simp only [List.length_drop,List.length_take];rfl)) ?_;(with_reducible refine (trestleref04_Line.calls k2 a0 x1_2 t116 t117 true _ A16.out).mono ?_);rintro e w' ⟨rfl,⟨nd,rfl⟩⟩;refine ⟨_,rfl,?_⟩))
                      go_roundg k2
                      case measure => have:=HJ7.out;have:=HK2.out;omega
                      case rel => exact ⟨(t117),(x7_2),(x8_2),(true),(x112000_2),(x112001_2),(by first|rfl|(simp;done)|(simp [*];done)),(by first|rfl|(simp;done)|(simp [*];done)),H',⟨by have:=HJ7.out;have:=HK2.out;omega⟩,⟨by (with_reducible repeat (first|apply Kd.R_alloc|apply Kd.R_drewN|apply Kd.R_drew));exact HO_7.out⟩,⟨by (with_reducible repeat (first|apply Kd.R_alloc|apply Kd.R_drewN|apply Kd.R_drew));exact HO_8.out⟩,⟨by (with_reducible repeat (first|refine blk_drewN ?_ _|refine blk_drew ?_|refine blk_alloc ?_ _));exact BK111.out⟩,⟨by repeat (first|(with_reducible first|exact HB.out|apply below_alloc|apply pw_below_drewN|apply below_drew1|refine below_set ?_ GE111.out)|exact HB.out)⟩⟩
                    · rw [if_neg c21] at H
                      have c21b0 : (t116.toList == ([99] : List UInt8)) = false:=beq_eq_false_iff_ne.mpr c21
                      have c21b1 : (t116.toList != ([99] : List UInt8)) = true:=bne_iff_ne.mpr c21
                      replace H:=Option.bind_eq_some_iff.mp H
                      obtain ⟨⟨t124,t125,t126,t127⟩,A220,H⟩:=H
                      replace H : (if t127 = true then (if x7_2.length < 4398046511104 then (trestleref04_Tail.l0 k2 a0 t117 (x7_2 ++ [(⟨t124,t125,t126⟩ : S59)]) x8_2 false) else (none)) else ((trestleref04_fault.f x1_2 42).bind fun bt132 => (some (([] : List (S59)),([] : List ByteArray),bt132.1,bt132.2)))) = some (r1,r2,r3,r4):=H
                      have A22:=Aside0.mk A220
                      clear A220
                      by_cases c23 : t127 = true
                      · subst c23
                        have H1 : (if x7_2.length < 4398046511104 then (trestleref04_Tail.l0 k2 a0 t117 (x7_2 ++ [(⟨t124,t125,t126⟩ : S59)]) x8_2 false) else (none)) = some (r1,r2,r3,r4):=by rw [if_pos rfl] at H;exact H
                        clear H
                        have H:=H1
                        clear H1
                        by_cases c24 : x7_2.length < 4398046511104
                        · rw [if_pos c24] at H
                          have LMc24:=Aside0.mk c24
                          clear c24
                          obtain ⟨y129,hy129⟩ : ∃ y_ : List (S59),y_ = (x7_2 ++ [(⟨t124,t125,t126⟩ : S59)]):=⟨_,rfl⟩
                          replace H : (trestleref04_Tail.l0 k2 a0 t117 y129 x8_2 false) = some (r1,r2,r3,r4):=by first|(rw [hy129];with_reducible exact H)|(have H2_:=(Option.bind_some _ _).symm.trans H;rw [hy129];with_reducible exact H2_)|(have H2_:=(Option.bind_some _ _).symm.trans H;with_reducible exact H2_)|with_reducible exact H|(rw [hy129];exact H)|exact H
                          have Ny129:=Aside0.mk hy129
                          clear hy129
                          have H':=Aside0.mk H
                          clear H
                          go_wp2_with (first|((with_reducible refine gate_callee (f:=57) rfl ?_);refine goesL_ (some 35) rfl rfl Tryd.func57 (by kernel_rfl) rfl #[.string a0,.int .i64 x1_2] rfl (by (try simp only [List.map_toArray,List.map_cons,List.map_nil]);first|done|rfl|(simp only [List.length_drop,List.length_take];rfl)) ?_;(with_reducible refine (trestleref04_Line.calls k2 a0 x1_2 t116 t117 true _ A16.out).mono ?_);rintro e w' ⟨rfl,⟨nd,rfl⟩⟩;refine ⟨_,rfl,?_⟩;(try (rw [drewN_self wr];generalize hq_ : World.drewN wr _ = wr;have n0_ : Aside0 (Kd.R k59 59 wr w.heap.size (fun _ => True) u7 x7_2):=⟨by rw [← hq_];exact (by (with_reducible repeat (first|apply Kd.R_alloc|apply Kd.R_drewN|apply Kd.R_drew));exact HO_7.out)⟩;have n1_ : Aside0 (Kd.R Kd.string 9 wr w.heap.size (fun _ => True) u8 x8_2):=⟨by rw [← hq_];exact (by (with_reducible repeat (first|apply Kd.R_alloc|apply Kd.R_drewN|apply Kd.R_drew));exact HO_8.out)⟩;have n2_ : Aside0 (wr.heap[gb111]? = some (.cells #[.int .i64 x112000_2,.int .i64 x112001_2] 40 (0,0))):=⟨by rw [← hq_];exact (by (with_reducible repeat (first|refine blk_drewN ?_ _|refine blk_drew ?_|refine blk_alloc ?_ _));exact BK111.out)⟩;have n3_ : Aside0 (Below w.heap.size w wr):=⟨by rw [← hq_];exact (by repeat (first|(with_reducible first|exact HB.out|apply below_alloc|apply pw_below_drewN|apply below_drew1|refine below_set ?_ GE111.out)|exact HB.out))⟩;clear HO_7 HO_8 BK111 HB hq_;have HO_7:=n0_;have HO_8:=n1_;have BK111:=n2_;have HB:=n3_;clear n0_ n1_ n2_ n3_)))|((with_reducible refine gate_callee (f:=58) rfl ?_);refine goesL_ (some 52) rfl rfl Tryd.func58 (by kernel_rfl) rfl #[.string t116] rfl (by (try simp only [List.map_toArray,List.map_cons,List.map_nil]);first|done|rfl|(simp only [List.length_drop,List.length_take];rfl)) ?_;(with_reducible refine (trestleref04_symbol.calls k2 t116 t124 t125 t126 true _ A22.out).mono ?_);rintro e w25 ⟨rfl,hb⟩;refine ⟨_,rfl,?_⟩;have n0_:=Aside0.mk (Kd.R_below (by (with_reducible repeat (first|apply Kd.R_alloc|apply Kd.R_drewN|apply Kd.R_drew));exact HO_7.out) hb);have n1_:=Aside0.mk (Kd.R_below (by (with_reducible repeat (first|apply Kd.R_alloc|apply Kd.R_drewN|apply Kd.R_drew));exact HO_8.out) hb);have n2_:=Aside0.mk (blk_below (g:=gb111) (o:=.cells #[.int .i64 x112000_2,.int .i64 x112001_2] 40 (0,0)) (by (with_reducible repeat (first|refine blk_drewN ?_ _|refine blk_drew ?_|refine blk_alloc ?_ _));exact BK111.out) hb);have n3_:=Aside0.mk (below_step (by repeat (first|(with_reducible first|exact HB.out|apply below_alloc|apply pw_below_drewN|apply below_drew1|refine below_set ?_ GE111.out)|exact HB.out)) hb);clear HO_7;clear HO_8;clear BK111;clear HB;have HO_7:=n0_;have HO_8:=n1_;have BK111:=n2_;have HB:=n3_;clear n0_ n1_ n2_ n3_;(try clear hb);(try clear hb2);(try clear hk);(try clear hi))|((with_reducible refine gate_dst (N:=13) rfl ?_);(try (refine gate_guard (by rfl) ?_;dsimp only));refine box_event ?hg (N:=13) ?hd (cs:=#[.int .u8 0,.int .i64 0,.string (⟨#[]⟩ : ByteArray)]) (t:=59) ?hr ?_;(case hd => rfl);(case hg => rfl);(case hr => first|(go_simp;done)|(go_simp;rfl));intro gb128 hg w26 hbox hb;have n0_:=Aside0.mk (Kd.R_below (Kd.R_elderB (by (with_reducible repeat (first|apply Kd.R_alloc|apply Kd.R_drewN|apply Kd.R_drew));exact HO_7.out) gb128 (Nat.le_of_eq hg.symm)) hb);have n1_:=Aside0.mk (Kd.R_below (by (with_reducible repeat (first|apply Kd.R_alloc|apply Kd.R_drewN|apply Kd.R_drew));exact HO_8.out) hb);have n2_:=Aside0.mk (blk_below (g:=gb111) (o:=.cells #[.int .i64 x112000_2,.int .i64 x112001_2] 40 (0,0)) (by (with_reducible repeat (first|refine blk_drewN ?_ _|refine blk_drew ?_|refine blk_alloc ?_ _));exact BK111.out) hb);have n3_:=Aside0.mk (below_step (by repeat (first|(with_reducible first|exact HB.out|apply below_alloc|apply pw_below_drewN|apply below_drew1|refine below_set ?_ GE111.out)|exact HB.out)) hb);have n4_:=Aside0.mk (hbox);have n5_:=Aside0.mk ((by rw [hg];exact (below_size (by repeat (first|(with_reducible first|exact HB.out|apply below_alloc|apply pw_below_drewN|apply below_drew1|refine below_set ?_ GE111.out)|exact HB.out))) : w.heap.size ≤ gb128));have n6_:=Aside0.mk ((by rw [hg];exact (below_size (by repeat (first|(with_reducible first|exact HB.out|apply below_alloc|apply pw_below_drewN|apply below_drew1|refine below_set ?_ GE111.out)|exact HB.out))) : w.heap.size ≤ gb128));have n7_:=Aside0.mk ((by rw [hg];exact Nat.ne_of_lt (blk_lt (g:=gb111) (o:=.cells #[.int .i64 x112000_2,.int .i64 x112001_2] 40 (0,0)) (by (with_reducible repeat (first|refine blk_drewN ?_ _|refine blk_drew ?_|refine blk_alloc ?_ _));exact BK111.out)) : gb111 ≠ gb128));have n8_:=Aside0.mk ((by rw [hg];exact Nat.ne_of_gt (blk_lt (g:=gb111) (o:=.cells #[.int .i64 x112000_2,.int .i64 x112001_2] 40 (0,0)) (by (with_reducible repeat (first|refine blk_drewN ?_ _|refine blk_drew ?_|refine blk_alloc ?_ _));exact BK111.out)) : gb128 ≠ gb111));clear HO_7;clear HO_8;clear BK111;clear HB;have HO_7:=n0_;have HO_8:=n1_;have BK111:=n2_;have HB:=n3_;have BK128:=n4_;have GW128:=n5_;have GE128:=n6_;have NB111_128:=n7_;have NB128_111:=n8_;clear n0_ n1_ n2_ n3_ n4_ n5_ n6_ n7_ n8_;clear hb hbox hg;have hnb27:=NB128_111.out;have hnc27:=NB111_128.out;have hcz28_0 : w26.cell? ⟨gb128,0,none⟩ = some (.int .u8 0):=(blk_cell BK128.out 0).trans rfl;have hcz28_1 : w26.cell? ⟨gb128,1,none⟩ = some (.int .i64 0):=(blk_cell BK128.out 1).trans rfl;have hcz28_2 : w26.cell? ⟨gb128,2,none⟩ = some (.string (⟨#[]⟩ : ByteArray)):=(blk_cell BK128.out 2).trans rfl;have hfz28_0:=blk_frozen BK128.out 0;have hfz28_1:=blk_frozen BK128.out 1;have hfz28_2:=blk_frozen BK128.out 2)|((with_reducible refine gate_builtin (b:=.append) (xs:=#[.tmp 59,.tmp 61]) rfl ?_);(try (refine gate_guard (by rfl) ?_;dsimp only));at_builtin;refine Kd.R_append k59 (w0:=w) w.heap.size rfl (.tmp 59) (.tmp 61) 53 59 (.agg #[(.int .u8 0),(.int .i64 0),(.string ⟨#[]⟩)]) 32 rfl Tryd.underlying53 info59 rfl (by decide) (by omega) u7 x7_2 (⟨t124,t125,t126⟩ : S59) [.int .u8 t124,.int .i64 t125,.string t126] (fun k_ => k_ ≠ gb128) (fun _ => False) rfl (by first|(go_simp;done)|(go_simp;rfl)) ?aP (fun _ hk => hk.elim) ?aF ?aO ?aB ?aS ?aL ?_;(case aP => exact k59_mkM _ _ _ (⟨t124,t125,t126⟩ : S59));(case aB => exact (by repeat (first|(with_reducible first|exact HB.out|apply below_alloc|apply pw_below_drewN|apply below_drew1|refine below_set ?_ GE111.out|refine below_set ?_ GE128.out)|exact HB.out)));(case aF => exact (fun k_ hk => Kd.freshB (g:=gb128) (o:=.cells #[.int .u8 t124,.int .i64 t125,.string t126] 59 (0,0)) (by (with_reducible repeat (first|refine blk_drewN ?_ _|refine blk_drew ?_|refine blk_alloc ?_ _));refine blk_put (cs:=#[.int .u8 t124,.int .i64 t125,.string (⟨#[]⟩ : ByteArray)]) ?_ 2 _ rfl;(with_reducible repeat (first|refine blk_drewN ?_ _|refine blk_drew ?_|refine blk_alloc ?_ _));refine blk_put (cs:=#[.int .u8 t124,.int .i64 0,.string (⟨#[]⟩ : ByteArray)]) ?_ 1 _ rfl;(with_reducible repeat (first|refine blk_drewN ?_ _|refine blk_drew ?_|refine blk_alloc ?_ _));refine blk_put (cs:=#[.int .u8 0,.int .i64 0,.string (⟨#[]⟩ : ByteArray)]) ?_ 0 _ rfl;(with_reducible repeat (first|refine blk_drewN ?_ _|refine blk_drew ?_|refine blk_alloc ?_ _));exact BK128.out) k_ hk));(case aO => exact (by (with_reducible repeat (first|apply Kd.R_alloc|apply Kd.R_drewN|apply Kd.R_drew));exact Kd.R_mono (Kd.R_far (p:=⟨gb128,2,none⟩) (Kd.R_far (p:=⟨gb128,1,none⟩) (Kd.R_far (p:=⟨gb128,0,none⟩) (Kd.R_mono HO_7.out (fun k_ hk => (⟨hk,hk.2⟩ : _ ∧ k_ ≠ gb128))) (fun _ hk => hk.2) (.int .u8 t124)) (fun _ hk => hk.2) (.int .i64 t125)) (fun _ hk => hk.2) (.string t126)) (fun _ hk => hk.1.2)));(case aS => exact (below_size (by repeat (first|(with_reducible first|exact HB.out|apply below_alloc|apply pw_below_drewN|apply below_drew1|refine below_set ?_ GE111.out|refine below_set ?_ GE128.out)|exact HB.out))));(case aL => have:=LMc24.out;omega);intro v130 w29 ho hb hg hat;rw [← Ny129.out] at ho;have n0_:=Aside0.mk (Kd.R_over' (by (with_reducible repeat (first|apply Kd.R_alloc|apply Kd.R_drewN|apply Kd.R_drew));exact (Kd.R_mono (Kd.R_far (p:=⟨gb128,2,none⟩) (Kd.R_far (p:=⟨gb128,1,none⟩) (Kd.R_far (p:=⟨gb128,0,none⟩) (Kd.R_types HO_8.out BK128.out (by decide)) (fun _ hk => hk.2) (.int .u8 t124)) (fun _ hk => hk.2) (.int .i64 t125)) (fun _ hk => hk.2) (.string t126)) (fun _ h_ => h_.1))) (Kd.R_typed (by (with_reducible repeat (first|apply Kd.R_alloc|apply Kd.R_drewN|apply Kd.R_drew));exact (Kd.R_mono (Kd.R_far (p:=⟨gb128,2,none⟩) (Kd.R_far (p:=⟨gb128,1,none⟩) (Kd.R_far (p:=⟨gb128,0,none⟩) (Kd.R_mono HO_7.out (fun k_ hk => (⟨hk,hk.2⟩ : _ ∧ k_ ≠ gb128))) (fun _ hk => hk.2) (.int .u8 t124)) (fun _ hk => hk.2) (.int .i64 t125)) (fun _ hk => hk.2) (.string t126)) (fun _ h_ => h_.1)))) (by decide) hg);have n1_:=Aside0.mk (blk_grown (g:=gb111) (o:=.cells #[.int .i64 x112000_2,.int .i64 x112001_2] 40 (0,0)) (by (with_reducible repeat (first|refine blk_drewN ?_ _|refine blk_drew ?_|refine blk_alloc ?_ _));refine blk_far ?_ NB111_128.out _;(with_reducible repeat (first|refine blk_drewN ?_ _|refine blk_drew ?_|refine blk_alloc ?_ _));refine blk_far ?_ NB111_128.out _;(with_reducible repeat (first|refine blk_drewN ?_ _|refine blk_drew ?_|refine blk_alloc ?_ _));refine blk_far ?_ NB111_128.out _;(with_reducible repeat (first|refine blk_drewN ?_ _|refine blk_drew ?_|refine blk_alloc ?_ _));exact BK111.out) hg (Kd.R_ne HO_7.out BK111.out (by decide)));have n2_:=Aside0.mk (blk_grown (g:=gb128) (o:=.cells #[.int .u8 t124,.int .i64 t125,.string t126] 59 (0,0)) (by (with_reducible repeat (first|refine blk_drewN ?_ _|refine blk_drew ?_|refine blk_alloc ?_ _));refine blk_put (cs:=#[.int .u8 t124,.int .i64 t125,.string (⟨#[]⟩ : ByteArray)]) ?_ 2 _ rfl;(with_reducible repeat (first|refine blk_drewN ?_ _|refine blk_drew ?_|refine blk_alloc ?_ _));refine blk_put (cs:=#[.int .u8 t124,.int .i64 0,.string (⟨#[]⟩ : ByteArray)]) ?_ 1 _ rfl;(with_reducible repeat (first|refine blk_drewN ?_ _|refine blk_drew ?_|refine blk_alloc ?_ _));refine blk_put (cs:=#[.int .u8 0,.int .i64 0,.string (⟨#[]⟩ : ByteArray)]) ?_ 0 _ rfl;(with_reducible repeat (first|refine blk_drewN ?_ _|refine blk_drew ?_|refine blk_alloc ?_ _));exact BK128.out) hg (Kd.R_away HO_7.out (fun _ hk => hk.2)));have n3_:=Aside0.mk (hb);have n4_:=Aside0.mk (ho);clear HO_8;clear BK111;clear BK128;clear HB;clear HO_7;have HO_8:=n0_;have BK111:=n1_;have BK128:=n2_;have HB:=n3_;have HO131:=n4_;clear n0_ n1_ n2_ n3_ n4_;clear ho hb hg hat))
                          go_roundg k2
                          case measure => have:=HJ7.out;have:=HK2.out;omega
                          case rel => exact ⟨(t117),(y129),(x8_2),(false),(x112000_2),(x112001_2),(by first|rfl|(simp;done)|(simp [*];done)),(by first|rfl|(simp;done)|(simp [*];done)),H',⟨by have:=HJ7.out;have:=HK2.out;omega⟩,⟨by (with_reducible repeat (first|apply Kd.R_alloc|apply Kd.R_drewN|apply Kd.R_drew));exact Kd.R_mono HO131.out (fun _ hk => trivial)⟩,⟨by (with_reducible repeat (first|apply Kd.R_alloc|apply Kd.R_drewN|apply Kd.R_drew));exact HO_8.out⟩,⟨by (with_reducible repeat (first|refine blk_drewN ?_ _|refine blk_drew ?_|refine blk_alloc ?_ _));exact BK111.out⟩,⟨by repeat (first|(with_reducible first|exact HB.out|apply below_alloc|apply pw_below_drewN|apply below_drew1|refine below_set ?_ GE111.out|refine below_set ?_ GE128.out)|exact HB.out)⟩⟩
                        · rw [if_neg c24] at H
                          exact absurd H (by simp)
                      · replace c23:=Bool.eq_false_iff.mpr c23
                        subst c23
                        have H1 : ((trestleref04_fault.f x1_2 42).bind fun bt132 => (some (([] : List (S59)),([] : List ByteArray),bt132.1,bt132.2))) = some (r1,r2,r3,r4):=by rw [if_neg (show ¬ (false = true) by decide)] at H;exact H
                        clear H
                        have H:=H1
                        clear H1
                        replace H:=Option.bind_eq_some_iff.mp H
                        obtain ⟨⟨t132,t133⟩,A300,H⟩:=H
                        replace H : (some (([] : List (S59)),([] : List ByteArray),t132,t133)) = some (r1,r2,r3,r4):=H
                        have A30:=Aside0.mk A300
                        clear A300
                        simp only [Option.some.injEq,Prod.mk.injEq] at H
                        obtain ⟨rfl,rfl,rfl,rfl⟩:=H
                        go_wp2_with (first|((with_reducible refine gate_callee (f:=57) rfl ?_);refine goesL_ (some 35) rfl rfl Tryd.func57 (by kernel_rfl) rfl #[.string a0,.int .i64 x1_2] rfl (by (try simp only [List.map_toArray,List.map_cons,List.map_nil]);first|done|rfl|(simp only [List.length_drop,List.length_take];rfl)) ?_;(with_reducible refine (trestleref04_Line.calls k2 a0 x1_2 t116 t117 true _ A16.out).mono ?_);rintro e w' ⟨rfl,⟨nd,rfl⟩⟩;refine ⟨_,rfl,?_⟩;(try (rw [drewN_self wr];generalize hq_ : World.drewN wr _ = wr;have n0_ : Aside0 (Kd.R k59 59 wr w.heap.size (fun _ => True) u7 x7_2):=⟨by rw [← hq_];exact (by (with_reducible repeat (first|apply Kd.R_alloc|apply Kd.R_drewN|apply Kd.R_drew));exact HO_7.out)⟩;have n1_ : Aside0 (Kd.R Kd.string 9 wr w.heap.size (fun _ => True) u8 x8_2):=⟨by rw [← hq_];exact (by (with_reducible repeat (first|apply Kd.R_alloc|apply Kd.R_drewN|apply Kd.R_drew));exact HO_8.out)⟩;have n2_ : Aside0 (wr.heap[gb111]? = some (.cells #[.int .i64 x112000_2,.int .i64 x112001_2] 40 (0,0))):=⟨by rw [← hq_];exact (by (with_reducible repeat (first|refine blk_drewN ?_ _|refine blk_drew ?_|refine blk_alloc ?_ _));exact BK111.out)⟩;have n3_ : Aside0 (Below w.heap.size w wr):=⟨by rw [← hq_];exact (by repeat (first|(with_reducible first|exact HB.out|apply below_alloc|apply pw_below_drewN|apply below_drew1|refine below_set ?_ GE111.out)|exact HB.out))⟩;clear HO_7 HO_8 BK111 HB hq_;have HO_7:=n0_;have HO_8:=n1_;have BK111:=n2_;have HB:=n3_;clear n0_ n1_ n2_ n3_)))|((with_reducible refine gate_callee (f:=58) rfl ?_);refine goesL_ (some 52) rfl rfl Tryd.func58 (by kernel_rfl) rfl #[.string t116] rfl (by (try simp only [List.map_toArray,List.map_cons,List.map_nil]);first|done|rfl|(simp only [List.length_drop,List.length_take];rfl)) ?_;(with_reducible refine (trestleref04_symbol.calls k2 t116 t124 t125 t126 false _ A22.out).mono ?_);rintro e w31 ⟨rfl,hb⟩;refine ⟨_,rfl,?_⟩;have n0_:=Aside0.mk (Kd.R_below (by (with_reducible repeat (first|apply Kd.R_alloc|apply Kd.R_drewN|apply Kd.R_drew));exact HO_7.out) hb);have n1_:=Aside0.mk (Kd.R_below (by (with_reducible repeat (first|apply Kd.R_alloc|apply Kd.R_drewN|apply Kd.R_drew));exact HO_8.out) hb);have n2_:=Aside0.mk (blk_below (g:=gb111) (o:=.cells #[.int .i64 x112000_2,.int .i64 x112001_2] 40 (0,0)) (by (with_reducible repeat (first|refine blk_drewN ?_ _|refine blk_drew ?_|refine blk_alloc ?_ _));exact BK111.out) hb);have n3_:=Aside0.mk (below_step (by repeat (first|(with_reducible first|exact HB.out|apply below_alloc|apply pw_below_drewN|apply below_drew1|refine below_set ?_ GE111.out)|exact HB.out)) hb);clear HO_7;clear HO_8;clear BK111;clear HB;have HO_7:=n0_;have HO_8:=n1_;have BK111:=n2_;have HB:=n3_;clear n0_ n1_ n2_ n3_;(try clear hb);(try clear hb2);(try clear hk);(try clear hi))|((with_reducible refine gate_dst (N:=13) rfl ?_);(try (refine gate_guard (by rfl) ?_;dsimp only));refine box_event ?hg (N:=13) ?hd (cs:=#[.int .u8 0,.int .i64 0,.string (⟨#[]⟩ : ByteArray)]) (t:=59) ?hr ?_;(case hd => rfl);(case hg => rfl);(case hr => first|(go_simp;done)|(go_simp;rfl));intro gb128 hg w32 hbox hb;have n0_:=Aside0.mk (Kd.R_below (Kd.R_elderB (by (with_reducible repeat (first|apply Kd.R_alloc|apply Kd.R_drewN|apply Kd.R_drew));exact HO_7.out) gb128 (Nat.le_of_eq hg.symm)) hb);have n1_:=Aside0.mk (Kd.R_below (by (with_reducible repeat (first|apply Kd.R_alloc|apply Kd.R_drewN|apply Kd.R_drew));exact HO_8.out) hb);have n2_:=Aside0.mk (blk_below (g:=gb111) (o:=.cells #[.int .i64 x112000_2,.int .i64 x112001_2] 40 (0,0)) (by (with_reducible repeat (first|refine blk_drewN ?_ _|refine blk_drew ?_|refine blk_alloc ?_ _));exact BK111.out) hb);have n3_:=Aside0.mk (below_step (by repeat (first|(with_reducible first|exact HB.out|apply below_alloc|apply pw_below_drewN|apply below_drew1|refine below_set ?_ GE111.out)|exact HB.out)) hb);have n4_:=Aside0.mk (hbox);have n5_:=Aside0.mk ((by rw [hg];exact (below_size (by repeat (first|(with_reducible first|exact HB.out|apply below_alloc|apply pw_below_drewN|apply below_drew1|refine below_set ?_ GE111.out)|exact HB.out))) : w.heap.size ≤ gb128));have n6_:=Aside0.mk ((by rw [hg];exact (below_size (by repeat (first|(with_reducible first|exact HB.out|apply below_alloc|apply pw_below_drewN|apply below_drew1|refine below_set ?_ GE111.out)|exact HB.out))) : w.heap.size ≤ gb128));have n7_:=Aside0.mk ((by rw [hg];exact Nat.ne_of_lt (blk_lt (g:=gb111) (o:=.cells #[.int .i64 x112000_2,.int .i64 x112001_2] 40 (0,0)) (by (with_reducible repeat (first|refine blk_drewN ?_ _|refine blk_drew ?_|refine blk_alloc ?_ _));exact BK111.out)) : gb111 ≠ gb128));have n8_:=Aside0.mk ((by rw [hg];exact Nat.ne_of_gt (blk_lt (g:=gb111) (o:=.cells #[.int .i64 x112000_2,.int .i64 x112001_2] 40 (0,0)) (by (with_reducible repeat (first|refine blk_drewN ?_ _|refine blk_drew ?_|refine blk_alloc ?_ _));exact BK111.out)) : gb128 ≠ gb111));clear HO_7;clear HO_8;clear BK111;clear HB;have HO_7:=n0_;have HO_8:=n1_;have BK111:=n2_;have HB:=n3_;have BK128:=n4_;have GW128:=n5_;have GE128:=n6_;have NB111_128:=n7_;have NB128_111:=n8_;clear n0_ n1_ n2_ n3_ n4_ n5_ n6_ n7_ n8_;clear hb hbox hg;have hnb33:=NB128_111.out;have hnc33:=NB111_128.out;have hcz34_0 : w32.cell? ⟨gb128,0,none⟩ = some (.int .u8 0):=(blk_cell BK128.out 0).trans rfl;have hcz34_1 : w32.cell? ⟨gb128,1,none⟩ = some (.int .i64 0):=(blk_cell BK128.out 1).trans rfl;have hcz34_2 : w32.cell? ⟨gb128,2,none⟩ = some (.string (⟨#[]⟩ : ByteArray)):=(blk_cell BK128.out 2).trans rfl;have hfz34_0:=blk_frozen BK128.out 0;have hfz34_1:=blk_frozen BK128.out 1;have hfz34_2:=blk_frozen BK128.out 2)|((with_reducible refine gate_callee (f:=51) rfl ?_);refine goesL_ (some 58) rfl rfl Tryd.func51 (by kernel_rfl) rfl #[.int .i64 x1_2,.int .i64 42] rfl (by (try simp only [List.map_toArray,List.map_cons,List.map_nil]);first|done|rfl|(simp only [List.length_drop,List.length_take];rfl)) ?_;(with_reducible refine (trestleref04_fault.calls x1_2 42 t132 t133 _ A30.out).mono ?_);rintro e w35 ⟨rfl,hb⟩;refine ⟨_,rfl,?_⟩;have n0_:=Aside0.mk (Kd.R_below (by (with_reducible repeat (first|apply Kd.R_alloc|apply Kd.R_drewN|apply Kd.R_drew));exact (Kd.R_mono (Kd.R_far (p:=⟨gb128,2,none⟩) (Kd.R_far (p:=⟨gb128,1,none⟩) (Kd.R_far (p:=⟨gb128,0,none⟩) (Kd.R_mono HO_7.out (fun k_ hk => (⟨hk,hk.2⟩ : _ ∧ k_ ≠ gb128))) (fun _ hk => hk.2) (.int .u8 t124)) (fun _ hk => hk.2) (.int .i64 t125)) (fun _ hk => hk.2) (.string t126)) (fun _ h_ => h_.1))) hb);have n1_:=Aside0.mk (Kd.R_below (by (with_reducible repeat (first|apply Kd.R_alloc|apply Kd.R_drewN|apply Kd.R_drew));exact (Kd.R_mono (Kd.R_far (p:=⟨gb128,2,none⟩) (Kd.R_far (p:=⟨gb128,1,none⟩) (Kd.R_far (p:=⟨gb128,0,none⟩) (Kd.R_types HO_8.out BK128.out (by decide)) (fun _ hk => hk.2) (.int .u8 t124)) (fun _ hk => hk.2) (.int .i64 t125)) (fun _ hk => hk.2) (.string t126)) (fun _ h_ => h_.1))) hb);have n2_:=Aside0.mk (blk_below (g:=gb111) (o:=.cells #[.int .i64 x112000_2,.int .i64 x112001_2] 40 (0,0)) (by (with_reducible repeat (first|refine blk_drewN ?_ _|refine blk_drew ?_|refine blk_alloc ?_ _));refine blk_far ?_ NB111_128.out _;(with_reducible repeat (first|refine blk_drewN ?_ _|refine blk_drew ?_|refine blk_alloc ?_ _));refine blk_far ?_ NB111_128.out _;(with_reducible repeat (first|refine blk_drewN ?_ _|refine blk_drew ?_|refine blk_alloc ?_ _));refine blk_far ?_ NB111_128.out _;(with_reducible repeat (first|refine blk_drewN ?_ _|refine blk_drew ?_|refine blk_alloc ?_ _));exact BK111.out) hb);have n3_:=Aside0.mk (blk_below (g:=gb128) (o:=.cells #[.int .u8 t124,.int .i64 t125,.string t126] 59 (0,0)) (by (with_reducible repeat (first|refine blk_drewN ?_ _|refine blk_drew ?_|refine blk_alloc ?_ _));refine blk_put (cs:=#[.int .u8 t124,.int .i64 t125,.string (⟨#[]⟩ : ByteArray)]) ?_ 2 _ rfl;(with_reducible repeat (first|refine blk_drewN ?_ _|refine blk_drew ?_|refine blk_alloc ?_ _));refine blk_put (cs:=#[.int .u8 t124,.int .i64 0,.string (⟨#[]⟩ : ByteArray)]) ?_ 1 _ rfl;(with_reducible repeat (first|refine blk_drewN ?_ _|refine blk_drew ?_|refine blk_alloc ?_ _));refine blk_put (cs:=#[.int .u8 0,.int .i64 0,.string (⟨#[]⟩ : ByteArray)]) ?_ 0 _ rfl;(with_reducible repeat (first|refine blk_drewN ?_ _|refine blk_drew ?_|refine blk_alloc ?_ _));exact BK128.out) hb);have n4_:=Aside0.mk (below_step (by repeat (first|(with_reducible first|exact HB.out|apply below_alloc|apply pw_below_drewN|apply below_drew1|refine below_set ?_ GE111.out|refine below_set ?_ GE128.out)|exact HB.out)) hb);clear HO_7;clear HO_8;clear BK111;clear BK128;clear HB;have HO_7:=n0_;have HO_8:=n1_;have BK111:=n2_;have BK128:=n3_;have HB:=n4_;clear n0_ n1_ n2_ n3_ n4_;(try clear hb);(try clear hb2);(try clear hk);(try clear hi);have hcz36_0 : w35.cell? ⟨gb111,0,none⟩ = some (.int .i64 x112000_2):=(blk_cell BK111.out 0).trans rfl;have hcz36_1 : w35.cell? ⟨gb111,1,none⟩ = some (.int .i64 x112001_2):=(blk_cell BK111.out 1).trans rfl;have hfz36_0:=blk_frozen BK111.out 0;have hfz36_1:=blk_frozen BK111.out 1))
                        refine bodyPost_ret (results_list (rs:=[.tmp 4,.tmp 5,.cell 6 40]) rfl (by simp) (.tmp (.tmp (.cell gb111 40 #[.int .i64 t132,.int .i64 t133] (0,0) _ rfl (by (with_reducible repeat (first|refine blk_drewN ?_ _|refine blk_drew ?_|refine blk_alloc ?_ _));refine blk_put (cs:=#[.int .i64 t132,.int .i64 x112001_2]) ?_ 1 _ rfl;(with_reducible repeat (first|refine blk_drewN ?_ _|refine blk_drew ?_|refine blk_alloc ?_ _));refine blk_put (cs:=#[.int .i64 x112000_2,.int .i64 x112001_2]) ?_ 0 _ rfl;(with_reducible repeat (first|refine blk_drewN ?_ _|refine blk_drew ?_|refine blk_alloc ?_ _));exact BK111.out) Tryd.underlying40 rfl (by kernel_rfl) .nil)))) rfl ?_
                        exact ⟨_,_,by first|rfl|(simp [errW_none,errW_some] <;> rfl)|(simp [*,errW_none,errW_some] <;> rfl),by first|exact Kd.R_nil _ _ _ _ _|exact Kd.N_nil _ _ _ _ _|exact Kd.V_nil _ _ _ _ _|exact Kd.Q_nil _ _ _ _ _|exact Kd.S_nil _ _ _ _ _,by first|exact Kd.R_nil _ _ _ _ _|exact Kd.N_nil _ _ _ _ _|exact Kd.V_nil _ _ _ _ _|exact Kd.Q_nil _ _ _ _ _|exact Kd.S_nil _ _ _ _ _,by repeat (first|(with_reducible first|exact HB.out|apply below_alloc|apply pw_below_drewN|apply below_drew1|refine below_set ?_ GE111.out|refine below_set ?_ GE128.out)|exact HB.out)⟩
                · replace c17:=Bool.eq_false_iff.mpr c17
                  subst c17
                  have H1 : ((trestleref04_fault.f x1_2 42).bind fun bt119 => (some (([] : List (S59)),([] : List ByteArray),bt119.1,bt119.2))) = some (r1,r2,r3,r4):=by rw [if_neg (show ¬ (false = true) by decide)] at H;exact H
                  clear H
                  have H:=H1
                  clear H1
                  replace H:=Option.bind_eq_some_iff.mp H
                  obtain ⟨⟨t119,t120⟩,A370,H⟩:=H
                  replace H : (some (([] : List (S59)),([] : List ByteArray),t119,t120)) = some (r1,r2,r3,r4):=H
                  have A37:=Aside0.mk A370
                  clear A370
                  simp only [Option.some.injEq,Prod.mk.injEq] at H
                  obtain ⟨rfl,rfl,rfl,rfl⟩:=H
                  go_wp2_with (first|((with_reducible refine gate_callee (f:=57) rfl ?_);refine goesL_ (some 35) rfl rfl Tryd.func57 (by kernel_rfl) rfl #[.string a0,.int .i64 x1_2] rfl (by (try simp only [List.map_toArray,List.map_cons,List.map_nil]);first|done|rfl|(simp only [List.length_drop,List.length_take];rfl)) ?_;(with_reducible refine (trestleref04_Line.calls k2 a0 x1_2 t116 t117 false _ A16.out).mono ?_);rintro e w' ⟨rfl,⟨nd,rfl⟩⟩;refine ⟨_,rfl,?_⟩;(try (rw [drewN_self wr];generalize hq_ : World.drewN wr _ = wr;have n0_ : Aside0 (Kd.R k59 59 wr w.heap.size (fun _ => True) u7 x7_2):=⟨by rw [← hq_];exact (by (with_reducible repeat (first|apply Kd.R_alloc|apply Kd.R_drewN|apply Kd.R_drew));exact HO_7.out)⟩;have n1_ : Aside0 (Kd.R Kd.string 9 wr w.heap.size (fun _ => True) u8 x8_2):=⟨by rw [← hq_];exact (by (with_reducible repeat (first|apply Kd.R_alloc|apply Kd.R_drewN|apply Kd.R_drew));exact HO_8.out)⟩;have n2_ : Aside0 (wr.heap[gb111]? = some (.cells #[.int .i64 x112000_2,.int .i64 x112001_2] 40 (0,0))):=⟨by rw [← hq_];exact (by (with_reducible repeat (first|refine blk_drewN ?_ _|refine blk_drew ?_|refine blk_alloc ?_ _));exact BK111.out)⟩;have n3_ : Aside0 (Below w.heap.size w wr):=⟨by rw [← hq_];exact (by repeat (first|(with_reducible first|exact HB.out|apply below_alloc|apply pw_below_drewN|apply below_drew1|refine below_set ?_ GE111.out)|exact HB.out))⟩;clear HO_7 HO_8 BK111 HB hq_;have HO_7:=n0_;have HO_8:=n1_;have BK111:=n2_;have HB:=n3_;clear n0_ n1_ n2_ n3_)))|((with_reducible refine gate_callee (f:=51) rfl ?_);refine goesL_ (some 42) rfl rfl Tryd.func51 (by kernel_rfl) rfl #[.int .i64 x1_2,.int .i64 42] rfl (by (try simp only [List.map_toArray,List.map_cons,List.map_nil]);first|done|rfl|(simp only [List.length_drop,List.length_take];rfl)) ?_;(with_reducible refine (trestleref04_fault.calls x1_2 42 t119 t120 _ A37.out).mono ?_);rintro e w38 ⟨rfl,hb⟩;refine ⟨_,rfl,?_⟩;have n0_:=Aside0.mk (Kd.R_below (by (with_reducible repeat (first|apply Kd.R_alloc|apply Kd.R_drewN|apply Kd.R_drew));exact HO_7.out) hb);have n1_:=Aside0.mk (Kd.R_below (by (with_reducible repeat (first|apply Kd.R_alloc|apply Kd.R_drewN|apply Kd.R_drew));exact HO_8.out) hb);have n2_:=Aside0.mk (blk_below (g:=gb111) (o:=.cells #[.int .i64 x112000_2,.int .i64 x112001_2] 40 (0,0)) (by (with_reducible repeat (first|refine blk_drewN ?_ _|refine blk_drew ?_|refine blk_alloc ?_ _));exact BK111.out) hb);have n3_:=Aside0.mk (below_step (by repeat (first|(with_reducible first|exact HB.out|apply below_alloc|apply pw_below_drewN|apply below_drew1|refine below_set ?_ GE111.out)|exact HB.out)) hb);clear HO_7;clear HO_8;clear BK111;clear HB;have HO_7:=n0_;have HO_8:=n1_;have BK111:=n2_;have HB:=n3_;clear n0_ n1_ n2_ n3_;(try clear hb);(try clear hb2);(try clear hk);(try clear hi);have hcz39_0 : w38.cell? ⟨gb111,0,none⟩ = some (.int .i64 x112000_2):=(blk_cell BK111.out 0).trans rfl;have hcz39_1 : w38.cell? ⟨gb111,1,none⟩ = some (.int .i64 x112001_2):=(blk_cell BK111.out 1).trans rfl;have hfz39_0:=blk_frozen BK111.out 0;have hfz39_1:=blk_frozen BK111.out 1))
                  refine bodyPost_ret (results_list (rs:=[.tmp 4,.tmp 5,.cell 6 40]) rfl (by simp) (.tmp (.tmp (.cell gb111 40 #[.int .i64 t119,.int .i64 t120] (0,0) _ rfl (by (with_reducible repeat (first|refine blk_drewN ?_ _|refine blk_drew ?_|refine blk_alloc ?_ _));refine blk_put (cs:=#[.int .i64 t119,.int .i64 x112001_2]) ?_ 1 _ rfl;(with_reducible repeat (first|refine blk_drewN ?_ _|refine blk_drew ?_|refine blk_alloc ?_ _));refine blk_put (cs:=#[.int .i64 x112000_2,.int .i64 x112001_2]) ?_ 0 _ rfl;(with_reducible repeat (first|refine blk_drewN ?_ _|refine blk_drew ?_|refine blk_alloc ?_ _));exact BK111.out) Tryd.underlying40 rfl (by kernel_rfl) .nil)))) rfl ?_
                  exact ⟨_,_,by first|rfl|(simp [errW_none,errW_some] <;> rfl)|(simp [*,errW_none,errW_some] <;> rfl),by first|exact Kd.R_nil _ _ _ _ _|exact Kd.N_nil _ _ _ _ _|exact Kd.V_nil _ _ _ _ _|exact Kd.Q_nil _ _ _ _ _|exact Kd.S_nil _ _ _ _ _,by first|exact Kd.R_nil _ _ _ _ _|exact Kd.N_nil _ _ _ _ _|exact Kd.V_nil _ _ _ _ _|exact Kd.Q_nil _ _ _ _ _|exact Kd.S_nil _ _ _ _ _,by repeat (first|(with_reducible first|exact HB.out|apply below_alloc|apply pw_below_drewN|apply below_drew1|refine below_set ?_ GE111.out)|exact HB.out)⟩
              · rw [if_neg c15] at H
                have c15b0 : decide (x1_2 < (a0.size : Int)) = false:=decide_eq_false c15
                clear c15
                simp only [Option.some.injEq,Prod.mk.injEq] at H
                obtain ⟨rfl,rfl,rfl,rfl⟩:=H
                have hcz40_0 : wr.cell? ⟨gb111,0,none⟩ = some (.int .i64 x112000_2):=(blk_cell BK111.out 0).trans rfl
                have hcz40_1 : wr.cell? ⟨gb111,1,none⟩ = some (.int .i64 x112001_2):=(blk_cell BK111.out 1).trans rfl
                have hfz40_0:=blk_frozen BK111.out 0
                have hfz40_1:=blk_frozen BK111.out 1
                go_wp2
                refine bodyPost_ret (results_list (rs:=[.tmp 4,.tmp 5,.cell 6 40]) rfl (by simp) (.tmp (.tmp (.cell gb111 40 #[.int .i64 0,.int .i64 0] (0,0) _ rfl (by (with_reducible repeat (first|refine blk_drewN ?_ _|refine blk_drew ?_|refine blk_alloc ?_ _));refine blk_put (cs:=#[.int .i64 0,.int .i64 x112001_2]) ?_ 1 _ rfl;(with_reducible repeat (first|refine blk_drewN ?_ _|refine blk_drew ?_|refine blk_alloc ?_ _));refine blk_put (cs:=#[.int .i64 x112000_2,.int .i64 x112001_2]) ?_ 0 _ rfl;(with_reducible repeat (first|refine blk_drewN ?_ _|refine blk_drew ?_|refine blk_alloc ?_ _));exact BK111.out) Tryd.underlying40 rfl (by kernel_rfl) .nil)))) rfl ?_
                exact ⟨_,_,by first|rfl|(simp [errW_none,errW_some] <;> rfl)|(simp [*,errW_none,errW_some] <;> rfl),by (with_reducible repeat (first|apply Kd.R_alloc|apply Kd.R_drewN|apply Kd.R_drew));exact Kd.R_mono (Kd.R_far (p:=⟨gb111,1,none⟩) (Kd.R_far (p:=⟨gb111,0,none⟩) (Kd.R_types HO_7.out BK111.out (by decide)) (fun _ hk => hk.2) (.int .i64 0)) (fun _ hk => hk.2) (.int .i64 0)) (fun _ hk => trivial),by (with_reducible repeat (first|apply Kd.R_alloc|apply Kd.R_drewN|apply Kd.R_drew));exact Kd.R_mono (Kd.R_far (p:=⟨gb111,1,none⟩) (Kd.R_far (p:=⟨gb111,0,none⟩) (Kd.R_types HO_8.out BK111.out (by decide)) (fun _ hk => hk.2) (.int .i64 0)) (fun _ hk => hk.2) (.int .i64 0)) (fun _ hk => trivial),by repeat (first|(with_reducible first|exact HB.out|apply below_alloc|apply pw_below_drewN|apply below_drew1|refine below_set ?_ GE111.out)|exact HB.out)⟩
def trestlebook_SameTexts.l0 : Nat → List ByteArray → List ByteArray → Int → Option (Bool)
  | 0,_,_,_ => none
  | k + 1,x0,x1,x5 => if x5 < (x0.length : Int) then (if 0 ≤ x5 then (if x5 < (x1.length : Int) then (if (rdOf ByteArray.empty x0 x5).toList = (rdOf ByteArray.empty x1 x5).toList then (trestlebook_SameTexts.l0 k x0 x1 (wrap64 (x5 + 1))) else (none)) else (none)) else (none)) else (some true)
def trestlebook_SameTexts.f (k : Nat) (l0 : List ByteArray) (l1 : List ByteArray) : Option (Bool):=if (l0.length : Int) = (l1.length : Int) then (trestlebook_SameTexts.l0 k l0 l1 0) else (none)
set_option maxHeartbeats 8000000 in
set_option maxRecDepth 100000 in
theorem trestlebook_SameTexts.calls (k : Nat) (A0 : Option Addr) (c0 : Nat) (l0 : List ByteArray) (A1 : Option Addr) (c1 : Nat) (l1 : List ByteArray) (r : Bool) (w : World) (hr0 : Kd.C Kd.string w A0 l0.length l0) (hc0 : l0.length ≤ c0) (hr1 : Kd.C Kd.string w A1 l1.length l1) (hc1 : l1.length ≤ c1) (h : trestlebook_SameTexts.f k l0 l1 = some r) :
    Calls Tryd.prog 28 #[.slice A0 l0.length c0,.slice A1 l1.length c1] w fun e w' => e = .returned (.bool r) ∧ Drawn0 w w':=by
  have HR0:=Aside0.mk hr0
  have HC0:=Aside0.mk hc0
  clear hr0 hc0
  have HR1:=Aside0.mk hr1
  have HC1:=Aside0.mk hc1
  clear hr1 hc1
  have H : (if (l0.length : Int) = (l1.length : Int) then (trestlebook_SameTexts.l0 k l0 l1 0) else (none)) = some r:=h
  clear h
  by_cases c3 : (l0.length : Int) = (l1.length : Int)
  · rw [if_pos c3] at H
    have c3b0 : ((l0.length : Int) == (l1.length : Int)) = true:=beq_iff_eq.mpr c3
    have c3b1 : ((l0.length : Int) != (l1.length : Int)) = false:=bne_eq_false_iff_eq.mpr c3
    have c3b2 : (l0.length == l1.length) = true:=by first|simpa using c3|(simp at c3 ⊢;omega)
    clear c3
    have H':=Aside0.mk H
    clear H
    go_enter Tryd.func28,Tryd.ntmps28
    go_wp2
    repeat (go_quiet (fail);try go_wp2)
    (try simp only [Act.put,List.setIfInBounds_toArray,List.set_cons_zero,List.set_cons_succ])
    go_loopg [5] k (fun kq v5 w' => ∃ (x5_1 : Int),v5 = .int .i64 x5_1 ∧ Aside0 (trestlebook_SameTexts.l0 kq l0 l1 x5_1 = some r) ∧ Aside0 (kq ≤ k) ∧ Drawn0 w w')
    case atStart => exact ⟨(0),(by first|rfl|(simp;done)|(simp [*];done)),H',⟨Nat.le_refl _⟩,by repeat (first|exact Drawn0.refl _|apply Drawn0.step)⟩
    case round =>
      clear H'
      try clear c1
      try clear c2
      try clear p2
      try clear c3
      try clear c3b0
      try clear c3b1
      try clear c3b2
      obtain ⟨x5_1,rfl,HA,HK1,⟨m1,rfl⟩⟩:=hrel
      cases gk with
      | zero => exact absurd HA.out (by simp [trestlebook_SameTexts.l0])
      | succ k1 =>
        have H:=HA.out
        clear HA
        simp only [trestlebook_SameTexts.l0] at H
        by_cases c4 : x5_1 < (l0.length : Int)
        · rw [if_pos c4] at H
          have c4b0 : decide (x5_1 < (l0.length : Int)) = true:=decide_eq_true c4
          clear c4
          by_cases c5 : 0 ≤ x5_1
          · rw [if_pos c5] at H
            have c5b0 : decide (0 ≤ x5_1) = true:=decide_eq_true c5
            clear c5
            by_cases c6 : x5_1 < (l1.length : Int)
            · rw [if_pos c6] at H
              have c6b0 : decide (x5_1 < (l1.length : Int)) = true:=decide_eq_true c6
              clear c6
              by_cases c7 : (rdOf ByteArray.empty l0 x5_1).toList = (rdOf ByteArray.empty l1 x5_1).toList
              · rw [if_pos c7] at H
                have c7b0 : ((rdOf ByteArray.empty l0 x5_1).toList == (rdOf ByteArray.empty l1 x5_1).toList) = true:=beq_iff_eq.mpr c7
                have c7b1 : ((rdOf ByteArray.empty l0 x5_1).toList != (rdOf ByteArray.empty l1 x5_1).toList) = false:=bne_eq_false_iff_eq.mpr c7
                clear c7
                have H':=Aside0.mk H
                clear H
                have p134 : 0 ≤ (x5_1 : Int):=of_decide_eq_true (by first|(with_reducible assumption)|assumption)
                have q134 : x5_1 < (l0.length : Int):=of_decide_eq_true (by first|(with_reducible assumption)|assumption)
                obtain ⟨ad134,e134,hx134_0⟩:=Kd.at_string HR0.out x5_1 p134 q134
                cases e134
                replace p134:=eq_true p134
                replace q134:=eq_true q134
                have p135 : 0 ≤ (x5_1 : Int):=of_decide_eq_true (by first|(with_reducible assumption)|assumption)
                have q135 : x5_1 < (l1.length : Int):=of_decide_eq_true (by first|(with_reducible assumption)|assumption)
                obtain ⟨ad135,e135,hx135_0⟩:=Kd.at_string HR1.out x5_1 p135 q135
                cases e135
                replace p135:=eq_true p135
                replace q135:=eq_true q135
                go_wp2
                repeat (go_quiet (fail);try go_wp2)
                go_roundg k1
                case measure => have:=HK1.out;omega
                case rel => exact ⟨(wrap64 (x5_1 + 1)),(by first|rfl|(simp;done)|(simp [*];done)),H',⟨by have:=HK1.out;omega⟩,by repeat (first|exact Drawn0.refl _|apply Drawn0.step)⟩
              · rw [if_neg c7] at H
                exact absurd H (by simp)
            · rw [if_neg c6] at H
              exact absurd H (by simp)
          · rw [if_neg c5] at H
            exact absurd H (by simp)
        · rw [if_neg c4] at H
          have c4b0 : decide (x5_1 < (l0.length : Int)) = false:=decide_eq_false c4
          clear c4
          obtain rfl:=Option.some.inj H
          go_wp2
          repeat (go_quiet (fail);try go_wp2)
          go_ret
          exact ⟨by first|rfl|(simp;done)|(simp [*];done),by repeat (first|exact Drawn0.refl _|apply Drawn0.step)⟩
  · rw [if_neg c3] at H
    exact absurd H (by simp)
end Go.Proofs.YtojepjkpnponoaaDoor.Asc

