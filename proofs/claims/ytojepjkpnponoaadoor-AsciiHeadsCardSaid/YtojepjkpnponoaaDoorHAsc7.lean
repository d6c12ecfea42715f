import Derived.Test.YtojepjkpnponoaaDoorHAsc6
import Derived.Test.YtojepjkpnponoaaDoorHGV
namespace Go.Proofs.YtojepjkpnponoaaDoor.Asc
open Go.RowKit Go.Proofs.YtojepjkpnponoaaDoorW.PrintWords Go.Proofs.YtojepjkpnponoaaDoorW.PrintLast Go.Proofs.YtojepjkpnponoaaDoorW.PrintMore
attribute [local go_sem] max2_int min2_int max_two min_two max_three min_three max_four min_four
set_option linter.unusedVariables false
set_option linter.unusedSimpArgs false
mutual
def trestleref04_header.j0 : Nat → ByteArray → Int → Bool → Option (ByteArray × List Int × Int × Bool)
  | 0,_,_,_ => none
  | k + 1,x6,x7,x33 => if x33 = true then (some ((⟨#[]⟩ : ByteArray),([] : List Int),0,false)) else (if 4 ≤ (x6.size : Int) then ((trestleref04_Numbers.f k (x6.extract 4 x6.size)).bind fun bt116 => (if bt116.2 = true then (if (bt116.1.length : Int) < 5 then (trestleref04_header.j1 k x6 x7 bt116.1 true) else (trestleref04_header.j1 k x6 x7 bt116.1 (decide ((bt116.1.length : Int) > 9)))) else (trestleref04_header.j1 k x6 x7 bt116.1 true))) else (none))
def trestleref04_header.j1 : Nat → ByteArray → Int → List Int → Bool → Option (ByteArray × List Int × Int × Bool)
  | 0,_,_,_,_ => none
  | k + 1,x6,x7,x9,x51 => if x51 = true then (some ((⟨#[]⟩ : ByteArray),([] : List Int),0,false)) else (trestleref04_header.l0 k x6 x7 x9)
def trestleref04_header.l0 : Nat → ByteArray → Int → List Int → Option (ByteArray × List Int × Int × Bool)
  | 0,_,_,_ => none
  | k + 1,x6,x7,x9 => if (x9.length : Int) < 9 then (if x9.length < 17592186044416 then (trestleref04_header.l0 k x6 x7 (x9 ++ [0])) else (none)) else (if 0 ≤ 3 then (if 3 ≤ (x6.size : Int) then (some (x6.extract 0 3,x9,x7,true)) else (none)) else (none))
end
def trestleref04_header.f (k : Nat) (a0 : ByteArray) : Option (ByteArray × List Int × Int × Bool):=(trestleref04_Line.f k a0 0).bind fun bt113 => (if bt113.2.2 = true then (if (bt113.1.size : Int) < 4 then (trestleref04_header.j0 k bt113.1 bt113.2.1 true) else (if 0 ≤ 4 then (if 4 ≤ (bt113.1.size : Int) then (if (bt113.1.extract 0 4).toList = ([97,97,103,32] : List UInt8) then (trestleref04_header.j0 k bt113.1 bt113.2.1 false) else (trestleref04_header.j0 k bt113.1 bt113.2.1 ((bt113.1.extract 0 4).toList != ([97,105,103,32] : List UInt8)))) else (none)) else (none))) else (trestleref04_header.j0 k bt113.1 bt113.2.1 true))
set_option maxHeartbeats 8000000 in
set_option maxRecDepth 100000 in
theorem trestleref04_header.calls (k : Nat) (a0 : ByteArray) (r1 : ByteArray) (r2 : List Int) (r3 : Int) (r4 : Bool) (w : World) (h : trestleref04_header.f k a0 = some (r1,r2,r3,r4)) :
    Calls Tryd.prog 52 #[.string a0] w fun e w' => ∃ v1_ : Value,e = .returned (.tuple #[.string r1,v1_,.int .i64 r3,.bool r4]) ∧ Kd.R (Kd.int .i64) 3 w' w.heap.size (fun _ => True) v1_ r2 ∧ Below w.heap.size w w':=by
  have HB:=Aside0.mk (Below.refl w.heap.size w)
  have H : ((trestleref04_Line.f k a0 0).bind fun bt113 => (if bt113.2.2 = true then (if (bt113.1.size : Int) < 4 then (trestleref04_header.j0 k bt113.1 bt113.2.1 true) else (if 0 ≤ 4 then (if 4 ≤ (bt113.1.size : Int) then (if (bt113.1.extract 0 4).toList = ([97,97,103,32] : List UInt8) then (trestleref04_header.j0 k bt113.1 bt113.2.1 false) else (trestleref04_header.j0 k bt113.1 bt113.2.1 ((bt113.1.extract 0 4).toList != ([97,105,103,32] : List UInt8)))) else (none)) else (none))) else (trestleref04_header.j0 k bt113.1 bt113.2.1 true))) = some (r1,r2,r3,r4):=h
  clear h
  replace H:=Option.bind_eq_some_iff.mp H
  obtain ⟨⟨t113,t114,t115⟩,A20,H⟩:=H
  replace H : (if t115 = true then (if (t113.size : Int) < 4 then (trestleref04_header.j0 k t113 t114 true) else (if 0 ≤ 4 then (if 4 ≤ (t113.size : Int) then (if (t113.extract 0 4).toList = ([97,97,103,32] : List UInt8) then (trestleref04_header.j0 k t113 t114 false) else (trestleref04_header.j0 k t113 t114 ((t113.extract 0 4).toList != ([97,105,103,32] : List UInt8)))) else (none)) else (none))) else (trestleref04_header.j0 k t113 t114 true)) = some (r1,r2,r3,r4):=H
  have A2:=Aside0.mk A20
  clear A20
  have HC3:=Aside0.mk H
  clear H
  go_enter Tryd.func52,Tryd.ntmps52
  go_upto_region 2 with (first|((with_reducible refine gate_callee (f:=57) rfl ?_);refine goesL_ (some 13) rfl rfl Tryd.func57 (by kernel_rfl) rfl #[.string a0,.int .i64 0] rfl (by (try simp only [List.map_toArray,List.map_cons,List.map_nil]);first|done|rfl|(simp only [List.length_drop,List.length_take];rfl)) ?_;(with_reducible refine (trestleref04_Line.calls k a0 0 t113 t114 t115 _ A2.out).mono ?_);rintro e w' ⟨rfl,⟨nd,rfl⟩⟩;refine ⟨_,rfl,?_⟩))
  (try simp only [Act.put,List.setIfInBounds_toArray,List.set_cons_zero,List.set_cons_succ])
  go_cut [33] (fun v33 wc => ∃ (kq : Nat) (x33_2 : Bool),v33 = .bool x33_2 ∧ Aside0 (trestleref04_header.j0 kq t113 t114 x33_2 = some (r1,r2,r3,r4)) ∧ Aside0 (kq ≤ k) ∧ Aside0 (Below w.heap.size w wc))
  case first =>
    have H:=HC3.out
    clear HC3
    by_cases c4 : t115 = true
    · subst c4
      have H1 : (if (t113.size : Int) < 4 then (trestleref04_header.j0 k t113 t114 true) else (if 0 ≤ 4 then (if 4 ≤ (t113.size : Int) then (if (t113.extract 0 4).toList = ([97,97,103,32] : List UInt8) then (trestleref04_header.j0 k t113 t114 false) else (trestleref04_header.j0 k t113 t114 ((t113.extract 0 4).toList != ([97,105,103,32] : List UInt8)))) else (none)) else (none))) = some (r1,r2,r3,r4):=by rw [if_pos rfl] at H;exact H
      clear H
      have H:=H1
      clear H1
      by_cases c5 : (t113.size : Int) < 4
      · rw [if_pos c5] at H
        have c5b0 : decide ((t113.size : Int) < 4) = true:=decide_eq_true c5
        have c5b1 : decide (t113.size < 4) = true:=decide_eq_true (by omega)
        have c5b2 : t113.size < 4:=by omega
        clear c5
        (first|rw [c5b0]|(simp only [i64_w,i32_w];rw [c5b0])|skip)
        have H':=Aside0.mk H
        clear H
        go_wp2
        go_meet
        case rel => exact ⟨_,(true),(by first|rfl|(simp;done)|(simp [*];done)),H',⟨by first|omega|exact Nat.le_refl _⟩,⟨by repeat (first|(with_reducible first|exact HB.out|apply below_alloc|apply pw_below_drewN|apply below_drew1)|exact HB.out)⟩⟩
      · rw [if_neg c5] at H
        have c5b0 : decide ((t113.size : Int) < 4) = false:=decide_eq_false c5
        have c5b1 : decide (t113.size < 4) = false:=decide_eq_false (by omega)
        have c5b2 : ¬ (t113.size < 4):=by omega
        clear c5
        (first|rw [c5b0]|(simp only [i64_w,i32_w];rw [c5b0])|skip)
        by_cases c6 : 0 ≤ 4
        · rw [if_pos c6] at H
          have c6b0:=eq_true c6
          have c6b1 : decide (0 ≤ 4) = true:=decide_eq_true c6
          clear c6
          by_cases c7 : 4 ≤ (t113.size : Int)
          · rw [if_pos c7] at H
            have c7b0:=eq_true c7
            have c7b1 : decide (4 ≤ (t113.size : Int)) = true:=decide_eq_true c7
            clear c7
            by_cases c8 : (t113.extract 0 4).toList = ([97,97,103,32] : List UInt8)
            · rw [if_pos c8] at H
              have c8b0 : ((t113.extract 0 4).toList == ([97,97,103,32] : List UInt8)) = true:=beq_iff_eq.mpr c8
              have c8b1 : ((t113.extract 0 4).toList != ([97,97,103,32] : List UInt8)) = false:=bne_eq_false_iff_eq.mpr c8
              clear c8
              have H':=Aside0.mk H
              clear H
              go_wp2
              go_meet
              case rel => exact ⟨_,(false),(by first|rfl|(simp;done)|(simp [*];done)),H',⟨by first|omega|exact Nat.le_refl _⟩,⟨by repeat (first|(with_reducible first|exact HB.out|apply below_alloc|apply pw_below_drewN|apply below_drew1)|exact HB.out)⟩⟩
            · rw [if_neg c8] at H
              have c8b0 : ((t113.extract 0 4).toList == ([97,97,103,32] : List UInt8)) = false:=beq_eq_false_iff_ne.mpr c8
              have c8b1 : ((t113.extract 0 4).toList != ([97,97,103,32] : List UInt8)) = true:=bne_iff_ne.mpr c8
              have c9b0:=eq_true (of_decide_eq_true (by first|(with_reducible assumption)|assumption) : 0 ≤ 4)
              have c10b0:=eq_true (of_decide_eq_true (by first|(with_reducible assumption)|assumption) : 4 ≤ (t113.size : Int))
              have H':=Aside0.mk H
              clear H
              go_wp2
              go_meet
              case rel => exact ⟨_,(((t113.extract 0 4).toList != ([97,105,103,32] : List UInt8))),(by first|rfl|(simp;done)|(simp [*];done)),H',⟨by first|omega|exact Nat.le_refl _⟩,⟨by repeat (first|(with_reducible first|exact HB.out|apply below_alloc|apply pw_below_drewN|apply below_drew1)|exact HB.out)⟩⟩
          · rw [if_neg c7] at H
            exact absurd H (by simp)
        · rw [if_neg c6] at H
          exact absurd H (by simp)
    · replace c4:=Bool.eq_false_iff.mpr c4
      subst c4
      have H1 : (trestleref04_header.j0 k t113 t114 true) = some (r1,r2,r3,r4):=by rw [if_neg (show ¬ (false = true) by decide)] at H;exact H
      clear H
      have H:=H1
      clear H1
      have H':=Aside0.mk H
      clear H
      go_wp2
      go_meet
      case rel => exact ⟨_,(true),(by first|rfl|(simp;done)|(simp [*];done)),H',⟨by first|omega|exact Nat.le_refl _⟩,⟨by repeat (first|(with_reducible first|exact HB.out|apply below_alloc|apply pw_below_drewN|apply below_drew1)|exact HB.out)⟩⟩
  case rest =>
    clear HC3
    try clear c1
    try clear p2
    try clear c4
    try clear c5
    try clear c5b0
    try clear c5b1
    try clear c5b2
    try clear c6
    try clear c6b0
    try clear c6b1
    try clear c7
    try clear c7b0
    try clear c7b1
    try clear c8
    try clear c8b0
    try clear c8b1
    try clear c9
    try clear c9b0
    try clear c10
    try clear c10b0
    obtain ⟨kq,x33_2,rfl,HA,HJ2,HB⟩:=hcut
    cases kq with
    | zero => exact absurd HA.out (by simp [trestleref04_header.j0])
    | succ kj2 =>
      have H:=HA.out
      clear HA
      simp only [trestleref04_header.j0] at H
      by_cases c11 : x33_2 = true
      · subst c11
        have H1 : (some ((⟨#[]⟩ : ByteArray),([] : List Int),0,false)) = some (r1,r2,r3,r4):=by rw [if_pos rfl] at H;exact H
        clear H
        have H:=H1
        clear H1
        simp only [Option.some.injEq,Prod.mk.injEq] at H
        obtain ⟨rfl,rfl,rfl,rfl⟩:=H
        go_wp2
        refine bodyPost_ret (results_list (rs:=[.tmp 2,.tmp 3,.tmp 4,.tmp 5]) rfl (by simp) (.tmp (.tmp (.tmp (.tmp .nil))))) rfl ?_
        exact ⟨_,by first|rfl|(simp [errW_none,errW_some] <;> rfl)|(simp [*,errW_none,errW_some] <;> rfl),by first|exact Kd.R_nil _ _ _ _ _|exact Kd.N_nil _ _ _ _ _|exact Kd.V_nil _ _ _ _ _|exact Kd.Q_nil _ _ _ _ _|exact Kd.S_nil _ _ _ _ _,by repeat (first|(with_reducible first|exact HB.out|apply below_alloc|apply pw_below_drewN|apply below_drew1)|exact HB.out)⟩
      · replace c11:=Bool.eq_false_iff.mpr c11
        subst c11
        have H1 : (if 4 ≤ (t113.size : Int) then ((trestleref04_Numbers.f kj2 (t113.extract 4 t113.size)).bind fun bt116 => (if bt116.2 = true then (if (bt116.1.length : Int) < 5 then (trestleref04_header.j1 kj2 t113 t114 bt116.1 true) else (trestleref04_header.j1 kj2 t113 t114 bt116.1 (decide ((bt116.1.length : Int) > 9)))) else (trestleref04_header.j1 kj2 t113 t114 bt116.1 true))) else (none)) = some (r1,r2,r3,r4):=by rw [if_neg (show ¬ (false = true) by decide)] at H;exact H
        clear H
        have H:=H1
        clear H1
        by_cases c12 : 4 ≤ (t113.size : Int)
        · rw [if_pos c12] at H
          have c12b0:=eq_true c12
          have c12b1 : decide (4 ≤ (t113.size : Int)) = true:=decide_eq_true c12
          clear c12
          replace H:=Option.bind_eq_some_iff.mp H
          obtain ⟨⟨t116,t117⟩,A130,H⟩:=H
          replace H : (if t117 = true then (if (t116.length : Int) < 5 then (trestleref04_header.j1 kj2 t113 t114 t116 true) else (trestleref04_header.j1 kj2 t113 t114 t116 (decide ((t116.length : Int) > 9)))) else (trestleref04_header.j1 kj2 t113 t114 t116 true)) = some (r1,r2,r3,r4):=H
          have A13:=Aside0.mk A130
          clear A130
          have HC14:=Aside0.mk H
          clear H
          go_upto_region 5 with (first|((with_reducible refine gate_callee (f:=80) rfl ?_);refine goesL_ (some 37) rfl rfl Tryd.func80 (by kernel_rfl) rfl #[.string (t113.extract 4 t113.size)] rfl (by (try simp only [List.map_toArray,List.map_cons,List.map_nil]);first|done|rfl|(simp only [List.length_drop,List.length_take];rfl)) ?_;(with_reducible refine (trestleref04_Numbers.calls kj2 (t113.extract 4 t113.size) t116 t117 _ A13.out).mono ?_);rintro e w15 ⟨v118,rfl,ho0,hb⟩;refine ⟨_,rfl,?_⟩;have n0_:=Aside0.mk (Kd.R_lower ho0 (below_size (by repeat (first|(with_reducible first|exact HB.out|apply below_alloc|apply pw_below_drewN|apply below_drew1)|exact HB.out))));have n1_:=Aside0.mk (below_step (by repeat (first|(with_reducible first|exact HB.out|apply below_alloc|apply pw_below_drewN|apply below_drew1)|exact HB.out)) hb);clear HB;have HO119:=n0_;have HB:=n1_;clear n0_ n1_;(try clear hb);(try clear hb2);(try clear hk);(try clear hi);(try clear ho0)))
          (try simp only [Act.put,List.setIfInBounds_toArray,List.set_cons_zero,List.set_cons_succ])
          go_cut [51] (fun v51 wc => ∃ (kq : Nat) (x51_13 : Bool),v51 = .bool x51_13 ∧ Aside0 (trestleref04_header.j1 kq t113 t114 t116 x51_13 = some (r1,r2,r3,r4)) ∧ Aside0 (kq ≤ kj2) ∧ Aside0 (Kd.R (Kd.int .i64) 3 wc w.heap.size (fun _ => True) v118 t116) ∧ Aside0 (Below w.heap.size w wc))
          case first =>
            have H:=HC14.out
            clear HC14
            by_cases c16 : t117 = true
            · subst c16
              have H1 : (if (t116.length : Int) < 5 then (trestleref04_header.j1 kj2 t113 t114 t116 true) else (trestleref04_header.j1 kj2 t113 t114 t116 (decide ((t116.length : Int) > 9)))) = some (r1,r2,r3,r4):=by rw [if_pos rfl] at H;exact H
              clear H
              have H:=H1
              clear H1
              by_cases c17 : (t116.length : Int) < 5
              · rw [if_pos c17] at H
                have c17b0 : decide ((t116.length : Int) < 5) = true:=decide_eq_true c17
                have c17b1 : decide (t116.length < 5) = true:=decide_eq_true (by omega)
                have c17b2 : t116.length < 5:=by omega
                clear c17
                (first|rw [c17b0]|(simp only [i64_w,i32_w];rw [c17b0])|skip)
                have H':=Aside0.mk H
                clear H
                obtain ⟨Ao18,co18,eo18⟩:=Kd.R_slice HO119.out
                subst eo18
                go_wp2
                go_meet
                case rel => exact ⟨_,(true),(by first|rfl|(simp;done)|(simp [*];done)),H',⟨by have:=HJ2.out;first|omega|exact Nat.le_refl _⟩,⟨by (with_reducible repeat (first|apply Kd.R_alloc|apply Kd.R_drewN|apply Kd.R_drew));exact HO119.out⟩,⟨by repeat (first|(with_reducible first|exact HB.out|apply below_alloc|apply pw_below_drewN|apply below_drew1)|exact HB.out)⟩⟩
              · rw [if_neg c17] at H
                have c17b0 : decide ((t116.length : Int) < 5) = false:=decide_eq_false c17
                have c17b1 : decide (t116.length < 5) = false:=decide_eq_false (by omega)
                have c17b2 : ¬ (t116.length < 5):=by omega
                clear c17
                (first|rw [c17b0]|(simp only [i64_w,i32_w];rw [c17b0])|skip)
                have H':=Aside0.mk H
                clear H
                obtain ⟨Ao19,co19,eo19⟩:=Kd.R_slice HO119.out
                subst eo19
                go_wp2
                go_meet
                case rel => exact ⟨_,(decide ((t116.length : Int) > 9)),(by first|rfl|(simp;done)|(simp [*];done)),H',⟨by have:=HJ2.out;first|omega|exact Nat.le_refl _⟩,⟨by (with_reducible repeat (first|apply Kd.R_alloc|apply Kd.R_drewN|apply Kd.R_drew));exact HO119.out⟩,⟨by repeat (first|(with_reducible first|exact HB.out|apply below_alloc|apply pw_below_drewN|apply below_drew1)|exact HB.out)⟩⟩
            · replace c16:=Bool.eq_false_iff.mpr c16
              subst c16
              have H1 : (trestleref04_header.j1 kj2 t113 t114 t116 true) = some (r1,r2,r3,r4):=by rw [if_neg (show ¬ (false = true) by decide)] at H;exact H
              clear H
              have H:=H1
              clear H1
              have H':=Aside0.mk H
              clear H
              go_wp2
              go_meet
              case rel => exact ⟨_,(true),(by first|rfl|(simp;done)|(simp [*];done)),H',⟨by have:=HJ2.out;first|omega|exact Nat.le_refl _⟩,⟨by (with_reducible repeat (first|apply Kd.R_alloc|apply Kd.R_drewN|apply Kd.R_drew));exact HO119.out⟩,⟨by repeat (first|(with_reducible first|exact HB.out|apply below_alloc|apply pw_below_drewN|apply below_drew1)|exact HB.out)⟩⟩
          case rest =>
            clear HC14
            try clear c1
            try clear p2
            try clear c4
            try clear c5
            try clear c5b0
            try clear c5b1
            try clear c5b2
            try clear c6
            try clear c6b0
            try clear c6b1
            try clear c7
            try clear c7b0
            try clear c7b1
            try clear c8
            try clear c8b0
            try clear c8b1
            try clear c9
            try clear c9b0
            try clear c10
            try clear c10b0
            try clear c11
            try clear c12
            try clear c12b0
            try clear c12b1
            try clear c16
            try clear c17
            try clear c17b0
            try clear c17b1
            try clear c17b2
            try clear p2
            obtain ⟨kq,x51_13,rfl,HA,HJ13,HO_9,HB⟩:=hcut
            cases kq with
            | zero => exact absurd HA.out (by simp [trestleref04_header.j1])
            | succ kj13 =>
              have H:=HA.out
              clear HA
              simp only [trestleref04_header.j1] at H
              by_cases c20 : x51_13 = true
              · subst c20
                have H1 : (some ((⟨#[]⟩ : ByteArray),([] : List Int),0,false)) = some (r1,r2,r3,r4):=by rw [if_pos rfl] at H;exact H
                clear H
                have H:=H1
                clear H1
                simp only [Option.some.injEq,Prod.mk.injEq] at H
                obtain ⟨rfl,rfl,rfl,rfl⟩:=H
                go_wp2
                refine bodyPost_ret (results_list (rs:=[.tmp 2,.tmp 3,.tmp 4,.tmp 5]) rfl (by simp) (.tmp (.tmp (.tmp (.tmp .nil))))) rfl ?_
                exact ⟨_,by first|rfl|(simp [errW_none,errW_some] <;> rfl)|(simp [*,errW_none,errW_some] <;> rfl),by first|exact Kd.R_nil _ _ _ _ _|exact Kd.N_nil _ _ _ _ _|exact Kd.V_nil _ _ _ _ _|exact Kd.Q_nil _ _ _ _ _|exact Kd.S_nil _ _ _ _ _,by repeat (first|(with_reducible first|exact HB.out|apply below_alloc|apply pw_below_drewN|apply below_drew1)|exact HB.out)⟩
              · replace c20:=Bool.eq_false_iff.mpr c20
                subst c20
                have H1 : (trestleref04_header.l0 kj13 t113 t114 t116) = some (r1,r2,r3,r4):=by rw [if_neg (show ¬ (false = true) by decide)] at H;exact H
                clear H
                have H:=H1
                clear H1
                have H':=Aside0.mk H
                clear H
                go_wp2
                (try simp only [Act.put,List.setIfInBounds_toArray,List.set_cons_zero,List.set_cons_succ])
                go_loopg [9] kj13 (fun kq v9 w' => ∃ (x9_3 : List Int),Aside0 (trestleref04_header.l0 kq t113 t114 x9_3 = some (r1,r2,r3,r4)) ∧ Aside0 (kq ≤ kj13) ∧ Aside0 (Kd.R (Kd.int .i64) 3 w' w.heap.size (fun _ => True) v9 x9_3) ∧ Aside0 (Below w.heap.size w w'))
                case atStart => exact ⟨(t116),H',⟨Nat.le_refl _⟩,⟨by (with_reducible repeat (first|apply Kd.R_alloc|apply Kd.R_drewN|apply Kd.R_drew));exact HO_9.out⟩,⟨by repeat (first|(with_reducible first|exact HB.out|apply below_alloc|apply pw_below_drewN|apply below_drew1)|exact HB.out)⟩⟩
                case round =>
                  clear H'
                  try clear c1
                  try clear c2
                  try clear p2
                  try clear c4
                  try clear c5
                  try clear c5b0
                  try clear c5b1
                  try clear c5b2
                  try clear c6
                  try clear c6b0
                  try clear c6b1
                  try clear c7
                  try clear c7b0
                  try clear c7b1
                  try clear c8
                  try clear c8b0
                  try clear c8b1
                  try clear c9
                  try clear c9b0
                  try clear c10
                  try clear c10b0
                  try clear c11
                  try clear c12
                  try clear c12b0
                  try clear c12b1
                  try clear c16
                  try clear c17
                  try clear c17b0
                  try clear c17b1
                  try clear c17b2
                  try clear c20
                  try clear p2
                  obtain ⟨x9_3,HA,HK3,HO_9,HB⟩:=hrel
                  cases gk with
                  | zero => exact absurd HA.out (by simp [trestleref04_header.l0])
                  | succ k3 =>
                    have H:=HA.out
                    clear HA
                    simp only [trestleref04_header.l0] at H
                    by_cases c21 : (x9_3.length : Int) < 9
                    · rw [if_pos c21] at H
                      have c21b0 : decide ((x9_3.length : Int) < 9) = true:=decide_eq_true c21
                      have c21b1 : decide (x9_3.length < 9) = true:=decide_eq_true (by omega)
                      have c21b2 : x9_3.length < 9:=by omega
                      clear c21
                      by_cases c22 : x9_3.length < 17592186044416
                      · rw [if_pos c22] at H
                        have LMc22:=Aside0.mk c22
                        clear c22
                        obtain ⟨y120,hy120⟩ : ∃ y_ : List Int,y_ = (x9_3 ++ [0]):=⟨_,rfl⟩
                        replace H : (trestleref04_header.l0 k3 t113 t114 y120) = some (r1,r2,r3,r4):=by first|(rw [hy120];with_reducible exact H)|(have H2_:=(Option.bind_some _ _).symm.trans H;rw [hy120];with_reducible exact H2_)|(have H2_:=(Option.bind_some _ _).symm.trans H;with_reducible exact H2_)|with_reducible exact H|(rw [hy120];exact H)|exact H
                        have Ny120:=Aside0.mk hy120
                        clear hy120
                        have H':=Aside0.mk H
                        clear H
                        obtain ⟨Ao23,co23,eo23⟩:=Kd.R_slice HO_9.out
                        subst eo23
                        go_wp2_with (first|((with_reducible refine gate_builtin (b:=.append) (xs:=#[.tmp 55,.tmp 56]) rfl ?_);(try (refine gate_guard (by rfl) ?_;dsimp only));at_builtin;refine Kd.R_append (Kd.int .i64) (w0:=w) w.heap.size rfl (.tmp 55) (.tmp 56) 47 3 (.int .i64 0) 8 rfl Tryd.underlying47 info3 rfl (by decide) (by omega) (.slice Ao23 x9_3.length co23) x9_3 0 [.int .i64 0] (fun _ => True) (fun _ => False) rfl rfl ?aP (fun _ hk => hk.elim) ?aF ?aO ?aB ?aS ?aL ?_;(case aP => exact rfl);(case aB => exact (by repeat (first|(with_reducible first|exact HB.out|apply below_alloc|apply pw_below_drewN|apply below_drew1)|exact HB.out)));(case aF => exact (fun _ _ => trivial));(case aO => exact (by (with_reducible repeat (first|apply Kd.R_alloc|apply Kd.R_drewN|apply Kd.R_drew));exact HO_9.out));(case aS => exact (below_size (by repeat (first|(with_reducible first|exact HB.out|apply below_alloc|apply pw_below_drewN|apply below_drew1)|exact HB.out))));(case aL => have:=LMc22.out;omega);intro v121 w24 ho hb hg hat;rw [← Ny120.out] at ho;have n0_:=Aside0.mk (hb);have n1_:=Aside0.mk (ho);clear HB;clear HO_9;have HB:=n0_;have HO122:=n1_;clear n0_ n1_;clear ho hb hg hat))
                        go_roundg k3
                        case measure => have:=HJ2.out;have:=HJ13.out;have:=HK3.out;omega
                        case rel => exact ⟨(y120),H',⟨by have:=HJ2.out;have:=HJ13.out;have:=HK3.out;omega⟩,⟨by (with_reducible repeat (first|apply Kd.R_alloc|apply Kd.R_drewN|apply Kd.R_drew));exact HO122.out⟩,⟨by repeat (first|(with_reducible first|exact HB.out|apply below_alloc|apply pw_below_drewN|apply below_drew1)|exact HB.out)⟩⟩
                      · rw [if_neg c22] at H
                        exact absurd H (by simp)
                    · rw [if_neg c21] at H
                      have c21b0 : decide ((x9_3.length : Int) < 9) = false:=decide_eq_false c21
                      have c21b1 : decide (x9_3.length < 9) = false:=decide_eq_false (by omega)
                      have c21b2 : ¬ (x9_3.length < 9):=by omega
                      clear c21
                      by_cases c25 : 0 ≤ 3
                      · rw [if_pos c25] at H
                        have c25b0:=eq_true c25
                        have c25b1 : decide (0 ≤ 3) = true:=decide_eq_true c25
                        clear c25
                        by_cases c26 : 3 ≤ (t113.size : Int)
                        · rw [if_pos c26] at H
                          have c26b0:=eq_true c26
                          have c26b1 : decide (3 ≤ (t113.size : Int)) = true:=decide_eq_true c26
                          clear c26
                          simp only [Option.some.injEq,Prod.mk.injEq] at H
                          obtain ⟨rfl,rfl,rfl,rfl⟩:=H
                          obtain ⟨Ao27,co27,eo27⟩:=Kd.R_slice HO_9.out
                          subst eo27
                          go_wp2
                          refine bodyPost_ret (results_list (rs:=[.tmp 2,.tmp 3,.tmp 4,.tmp 5]) rfl (by simp) (.tmp (.tmp (.tmp (.tmp .nil))))) rfl ?_
                          exact ⟨_,by first|rfl|(simp [errW_none,errW_some] <;> rfl)|(simp [*,errW_none,errW_some] <;> rfl),by (with_reducible repeat (first|apply Kd.R_alloc|apply Kd.R_drewN|apply Kd.R_drew));exact HO_9.out,by repeat (first|(with_reducible first|exact HB.out|apply below_alloc|apply pw_below_drewN|apply below_drew1)|exact HB.out)⟩
                        · rw [if_neg c26] at H
                          exact absurd H (by simp)
                      · rw [if_neg c25] at H
                        exact absurd H (by simp)
        · rw [if_neg c12] at H
          exact absurd H (by simp)
def trestleref04_Head.l0 : Nat → ByteArray → List Int → Int → Bool → Int → Option (ByteArray × List Int × Int × Int × Int)
  | 0,_,_,_,_,_ => none
  | k + 1,x6,x7,x8,x10,x11 => if x11 < 9 then (if x10 = true then (trestleref04_Head.l0 k x6 x7 x8 true (wrap64 (x11 + 1))) else (if 0 ≤ x11 then (if x11 < (x7.length : Int) then (trestleref04_Head.l0 k x6 x7 x8 (decide ((rd x7 x11) > 16384)) (wrap64 (x11 + 1))) else (none)) else (none))) else (if x10 = true then ((trestleref04_fault.f 0 41).bind fun bt136 => (some ((⟨#[]⟩ : ByteArray),([] : List Int),0,bt136.1,bt136.2))) else (if 1 < (x7.length : Int) then (if 2 < (x7.length : Int) then (if 4 < (x7.length : Int) then (if 0 < (x7.length : Int) then (if (wrap64 ((wrap64 ((rd x7 1) + (rd x7 2))) + (rd x7 4))) > (rd x7 0) then ((trestleref04_fault.f 0 41).bind fun bt142 => (some ((⟨#[]⟩ : ByteArray),([] : List Int),0,bt142.1,bt142.2))) else (some (x6,x7,x8,0,0))) else (none)) else (none)) else (none)) else (none)))
def trestleref04_Head.f (k : Nat) (a0 : ByteArray) : Option (ByteArray × List Int × Int × Int × Int):=if (a0.size : Int) > 262144 then ((trestleref04_fault.f 0 2).bind fun bt124 => (some ((⟨#[]⟩ : ByteArray),([] : List Int),0,bt124.1,bt124.2))) else ((trestleref04_header.f k a0).bind fun bt126 => (if bt126.2.2.2 = true then (if 0 < (bt126.2.1.length : Int) then (trestleref04_Head.l0 k bt126.1 bt126.2.1 bt126.2.2.1 (decide ((rd bt126.2.1 0) > 16384)) 1) else (none)) else ((trestleref04_fault.f 0 40).bind fun bt132 => (some ((⟨#[]⟩ : ByteArray),([] : List Int),0,bt132.1,bt132.2)))))
set_option maxHeartbeats 8000000 in
set_option maxRecDepth 100000 in
theorem trestleref04_Head.calls (k : Nat) (a0 : ByteArray) (r1 : ByteArray) (r2 : List Int) (r3 : Int) (r4 : Int) (r5 : Int) (w : World) (h : trestleref04_Head.f k a0 = some (r1,r2,r3,r4,r5)) :
    Calls Tryd.prog 22 #[.string a0] w fun e w' => ∃ v1_ : Value,e = .returned (.tuple #[.string r1,v1_,.int .i64 r3,.agg #[.int .i64 r4,.int .i64 r5]]) ∧ Kd.R (Kd.int .i64) 3 w' w.heap.size (fun _ => True) v1_ r2 ∧ Below w.heap.size w w':=by
  have hu40:=Tryd.underlying40
  have HB:=Aside0.mk (Below.refl w.heap.size w)
  have H : (if (a0.size : Int) > 262144 then ((trestleref04_fault.f 0 2).bind fun bt124 => (some ((⟨#[]⟩ : ByteArray),([] : List Int),0,bt124.1,bt124.2))) else ((trestleref04_header.f k a0).bind fun bt126 => (if bt126.2.2.2 = true then (if 0 < (bt126.2.1.length : Int) then (trestleref04_Head.l0 k bt126.1 bt126.2.1 bt126.2.2.1 (decide ((rd bt126.2.1 0) > 16384)) 1) else (none)) else ((trestleref04_fault.f 0 40).bind fun bt132 => (some ((⟨#[]⟩ : ByteArray),([] : List Int),0,bt132.1,bt132.2)))))) = some (r1,r2,r3,r4,r5):=h
  clear h
  by_cases c2 : (a0.size : Int) > 262144
  · rw [if_pos c2] at H
    have c2b0 : decide (262144 < (a0.size : Int)) = true:=decide_eq_true c2
    have c2b1 : decide (262144 < a0.size) = true:=decide_eq_true (by omega)
    have c2b2 : 262144 < a0.size:=by omega
    clear c2
    replace H:=Option.bind_eq_some_iff.mp H
    obtain ⟨⟨t124,t125⟩,A30,H⟩:=H
    replace H : (some ((⟨#[]⟩ : ByteArray),([] : List Int),0,t124,t125)) = some (r1,r2,r3,r4,r5):=H
    have A3:=Aside0.mk A30
    clear A30
    simp only [Option.some.injEq,Prod.mk.injEq] at H
    obtain ⟨rfl,rfl,rfl,rfl,rfl⟩:=H
    go_enter Tryd.func22,Tryd.ntmps22
    go_wp2_with (first|((with_reducible refine gate_dst (N:=5) rfl ?_);refine box_event ?hg (N:=5) ?hd (cs:=#[.int .i64 0,.int .i64 0]) (t:=40) ?hr ?_;(case hd => rfl);(case hg => rfl);(case hr => first|(go_simp;done)|(go_simp;rfl));intro gb123 hg w4 hbox hb;have n0_:=Aside0.mk (below_step (by repeat (first|(with_reducible first|exact HB.out|apply below_alloc|apply pw_below_drewN|apply below_drew1)|exact HB.out)) hb);have n1_:=Aside0.mk (hbox);have n2_:=Aside0.mk ((by rw [hg];exact (below_size (by repeat (first|(with_reducible first|exact HB.out|apply below_alloc|apply pw_below_drewN|apply below_drew1)|exact HB.out))) : w.heap.size ≤ gb123));have n3_:=Aside0.mk ((by rw [hg];exact (below_size (by repeat (first|(with_reducible first|exact HB.out|apply below_alloc|apply pw_below_drewN|apply below_drew1)|exact HB.out))) : w.heap.size ≤ gb123));clear HB;have HB:=n0_;have BK123:=n1_;have GW123:=n2_;have GE123:=n3_;clear n0_ n1_ n2_ n3_;clear hb hbox hg)|(go_at_call 51;(with_reducible refine (trestleref04_fault.calls 0 2 t124 t125 _ A3.out).mono ?_);rintro e w5 ⟨rfl,hb⟩;have n0_:=Aside0.mk (blk_below (g:=gb123) (o:=.cells #[.int .i64 0,.int .i64 0] 40 (0,0)) (by (with_reducible repeat (first|refine blk_drewN ?_ _|refine blk_drew ?_|refine blk_alloc ?_ _));exact BK123.out) hb);have n1_:=Aside0.mk (below_step (by repeat (first|(with_reducible first|exact HB.out|apply below_alloc|apply pw_below_drewN|apply below_drew1|refine below_set ?_ GE123.out)|exact HB.out)) hb);clear BK123;clear HB;have BK123:=n0_;have HB:=n1_;clear n0_ n1_;(try clear hb);(try clear hb2);(try clear hk);(try clear hi);have hcz6_0 : w5.cell? ⟨gb123,0,none⟩ = some (.int .i64 0):=(blk_cell BK123.out 0).trans rfl;have hcz6_1 : w5.cell? ⟨gb123,1,none⟩ = some (.int .i64 0):=(blk_cell BK123.out 1).trans rfl;have hfz6_0:=blk_frozen BK123.out 0;have hfz6_1:=blk_frozen BK123.out 1))
    repeat (go_quiet (first|((with_reducible refine gate_dst (N:=5) rfl ?_);refine box_event ?hg (N:=5) ?hd (cs:=#[.int .i64 0,.int .i64 0]) (t:=40) ?hr ?_;(case hd => rfl);(case hg => rfl);(case hr => first|(go_simp;done)|(go_simp;rfl));intro gb123 hg w4 hbox hb;have n0_:=Aside0.mk (below_step (by repeat (first|(with_reducible first|exact HB.out|apply below_alloc|apply pw_below_drewN|apply below_drew1)|exact HB.out)) hb);have n1_:=Aside0.mk (hbox);have n2_:=Aside0.mk ((by rw [hg];exact (below_size (by repeat (first|(with_reducible first|exact HB.out|apply below_alloc|apply pw_below_drewN|apply below_drew1)|exact HB.out))) : w.heap.size ≤ gb123));have n3_:=Aside0.mk ((by rw [hg];exact (below_size (by repeat (first|(with_reducible first|exact HB.out|apply below_alloc|apply pw_below_drewN|apply below_drew1)|exact HB.out))) : w.heap.size ≤ gb123));clear HB;have HB:=n0_;have BK123:=n1_;have GW123:=n2_;have GE123:=n3_;clear n0_ n1_ n2_ n3_;clear hb hbox hg)|(go_at_call 51;(with_reducible refine (trestleref04_fault.calls 0 2 t124 t125 _ A3.out).mono ?_);rintro e w5 ⟨rfl,hb⟩;have n0_:=Aside0.mk (blk_below (g:=gb123) (o:=.cells #[.int .i64 0,.int .i64 0] 40 (0,0)) (by (with_reducible repeat (first|refine blk_drewN ?_ _|refine blk_drew ?_|refine blk_alloc ?_ _));exact BK123.out) hb);have n1_:=Aside0.mk (below_step (by repeat (first|(with_reducible first|exact HB.out|apply below_alloc|apply pw_below_drewN|apply below_drew1|refine below_set ?_ GE123.out)|exact HB.out)) hb);clear BK123;clear HB;have BK123:=n0_;have HB:=n1_;clear n0_ n1_;(try clear hb);(try clear hb2);(try clear hk);(try clear hi);have hcz6_0 : w5.cell? ⟨gb123,0,none⟩ = some (.int .i64 0):=(blk_cell BK123.out 0).trans rfl;have hcz6_1 : w5.cell? ⟨gb123,1,none⟩ = some (.int .i64 0):=(blk_cell BK123.out 1).trans rfl;have hfz6_0:=blk_frozen BK123.out 0;have hfz6_1:=blk_frozen BK123.out 1));try go_wp2_with (first|((with_reducible refine gate_dst (N:=5) rfl ?_);refine box_event ?hg (N:=5) ?hd (cs:=#[.int .i64 0,.int .i64 0]) (t:=40) ?hr ?_;(case hd => rfl);(case hg => rfl);(case hr => first|(go_simp;done)|(go_simp;rfl));intro gb123 hg w4 hbox hb;have n0_:=Aside0.mk (below_step (by repeat (first|(with_reducible first|exact HB.out|apply below_alloc|apply pw_below_drewN|apply below_drew1)|exact HB.out)) hb);have n1_:=Aside0.mk (hbox);have n2_:=Aside0.mk ((by rw [hg];exact (below_size (by repeat (first|(with_reducible first|exact HB.out|apply below_alloc|apply pw_below_drewN|apply below_drew1)|exact HB.out))) : w.heap.size ≤ gb123));have n3_:=Aside0.mk ((by rw [hg];exact (below_size (by repeat (first|(with_reducible first|exact HB.out|apply below_alloc|apply pw_below_drewN|apply below_drew1)|exact HB.out))) : w.heap.size ≤ gb123));clear HB;have HB:=n0_;have BK123:=n1_;have GW123:=n2_;have GE123:=n3_;clear n0_ n1_ n2_ n3_;clear hb hbox hg)|(go_at_call 51;(with_reducible refine (trestleref04_fault.calls 0 2 t124 t125 _ A3.out).mono ?_);rintro e w5 ⟨rfl,hb⟩;have n0_:=Aside0.mk (blk_below (g:=gb123) (o:=.cells #[.int .i64 0,.int .i64 0] 40 (0,0)) (by (with_reducible repeat (first|refine blk_drewN ?_ _|refine blk_drew ?_|refine blk_alloc ?_ _));exact BK123.out) hb);have n1_:=Aside0.mk (below_step (by repeat (first|(with_reducible first|exact HB.out|apply below_alloc|apply pw_below_drewN|apply below_drew1|refine below_set ?_ GE123.out)|exact HB.out)) hb);clear BK123;clear HB;have BK123:=n0_;have HB:=n1_;clear n0_ n1_;(try clear hb);(try clear hb2);(try clear hk);(try clear hi);have hcz6_0 : w5.cell? ⟨gb123,0,none⟩ = some (.int .i64 0):=(blk_cell BK123.out 0).trans rfl;have hcz6_1 : w5.cell? ⟨gb123,1,none⟩ = some (.int .i64 0):=(blk_cell BK123.out 1).trans rfl;have hfz6_0:=blk_frozen BK123.out 0;have hfz6_1:=blk_frozen BK123.out 1)))
    refine bodyPost_ret (results_list (rs:=[.tmp 2,.tmp 3,.tmp 4,.cell 5 40]) rfl (by simp) (.tmp (.tmp (.tmp (.cell gb123 40 #[.int .i64 t124,.int .i64 t125] (0,0) _ rfl (by (with_reducible repeat (first|refine blk_drewN ?_ _|refine blk_drew ?_|refine blk_alloc ?_ _));refine blk_put (cs:=#[.int .i64 t124,.int .i64 0]) ?_ 1 _ rfl;(with_reducible repeat (first|refine blk_drewN ?_ _|refine blk_drew ?_|refine blk_alloc ?_ _));refine blk_put (cs:=#[.int .i64 0,.int .i64 0]) ?_ 0 _ rfl;(with_reducible repeat (first|refine blk_drewN ?_ _|refine blk_drew ?_|refine blk_alloc ?_ _));exact BK123.out) Tryd.underlying40 rfl (by kernel_rfl) .nil))))) rfl ?_
    exact ⟨_,by first|rfl|(simp [errW_none,errW_some] <;> rfl)|(simp [*,errW_none,errW_some] <;> rfl),by first|exact Kd.R_nil _ _ _ _ _|exact Kd.N_nil _ _ _ _ _|exact Kd.V_nil _ _ _ _ _|exact Kd.Q_nil _ _ _ _ _|exact Kd.S_nil _ _ _ _ _,by repeat (first|(with_reducible first|exact HB.out|apply below_alloc|apply pw_below_drewN|apply below_drew1|refine below_set ?_ GE123.out)|exact HB.out)⟩
  · rw [if_neg c2] at H
    have c2b0 : decide (262144 < (a0.size : Int)) = false:=decide_eq_false c2
    have c2b1 : decide (262144 < a0.size) = false:=decide_eq_false (by omega)
    have c2b2 : ¬ (262144 < a0.size):=by omega
    clear c2
    replace H:=Option.bind_eq_some_iff.mp H
    obtain ⟨⟨t126,t127,t128,t129⟩,A70,H⟩:=H
    replace H : (if t129 = true then (if 0 < (t127.length : Int) then (trestleref04_Head.l0 k t126 t127 t128 (decide ((rd t127 0) > 16384)) 1) else (none)) else ((trestleref04_fault.f 0 40).bind fun bt132 => (some ((⟨#[]⟩ : ByteArray),([] : List Int),0,bt132.1,bt132.2)))) = some (r1,r2,r3,r4,r5):=H
    have A7:=Aside0.mk A70
    clear A70
    by_cases c8 : t129 = true
    · subst c8
      have H1 : (if 0 < (t127.length : Int) then (trestleref04_Head.l0 k t126 t127 t128 (decide ((rd t127 0) > 16384)) 1) else (none)) = some (r1,r2,r3,r4,r5):=by rw [if_pos rfl] at H;exact H
      clear H
      have H:=H1
      clear H1
      by_cases c9 : 0 < (t127.length : Int)
      · rw [if_pos c9] at H
        have c9b0 : decide (0 < (t127.length : Int)) = true:=decide_eq_true c9
        have c9b1 : decide (0 < t127.length) = true:=decide_eq_true (by omega)
        have c9b2 : 0 < t127.length:=by omega
        clear c9
        have H':=Aside0.mk H
        clear H
        go_enter Tryd.func22,Tryd.ntmps22
        go_wp2_with (first|((with_reducible refine gate_dst (N:=5) rfl ?_);refine box_event ?hg (N:=5) ?hd (cs:=#[.int .i64 0,.int .i64 0]) (t:=40) ?hr ?_;(case hd => rfl);(case hg => rfl);(case hr => first|(go_simp;done)|(go_simp;rfl));intro gb123 hg w10 hbox hb;have n0_:=Aside0.mk (below_step (by repeat (first|(with_reducible first|exact HB.out|apply below_alloc|apply pw_below_drewN|apply below_drew1)|exact HB.out)) hb);have n1_:=Aside0.mk (hbox);have n2_:=Aside0.mk ((by rw [hg];exact (below_size (by repeat (first|(with_reducible first|exact HB.out|apply below_alloc|apply pw_below_drewN|apply below_drew1)|exact HB.out))) : w.heap.size ≤ gb123));have n3_:=Aside0.mk ((by rw [hg];exact (below_size (by repeat (first|(with_reducible first|exact HB.out|apply below_alloc|apply pw_below_drewN|apply below_drew1)|exact HB.out))) : w.heap.size ≤ gb123));clear HB;have HB:=n0_;have BK123:=n1_;have GW123:=n2_;have GE123:=n3_;clear n0_ n1_ n2_ n3_;clear hb hbox hg)|(go_at_call 52;(with_reducible refine (trestleref04_header.calls k a0 t126 t127 t128 true _ A7.out).mono ?_);rintro e w11 ⟨v130,rfl,ho0,hb⟩;have n0_:=Aside0.mk (Kd.R_lower ho0 (below_size (by repeat (first|(with_reducible first|exact HB.out|apply below_alloc|apply pw_below_drewN|apply below_drew1|refine below_set ?_ GE123.out)|exact HB.out))));have n1_:=Aside0.mk (blk_below (g:=gb123) (o:=.cells #[.int .i64 0,.int .i64 0] 40 (0,0)) (by (with_reducible repeat (first|refine blk_drewN ?_ _|refine blk_drew ?_|refine blk_alloc ?_ _));exact BK123.out) hb);have n2_:=Aside0.mk (below_step (by repeat (first|(with_reducible first|exact HB.out|apply below_alloc|apply pw_below_drewN|apply below_drew1|refine below_set ?_ GE123.out)|exact HB.out)) hb);clear BK123;clear HB;have HO131:=n0_;have BK123:=n1_;have HB:=n2_;clear n0_ n1_ n2_;(try clear hb);(try clear hb2);(try clear hk);(try clear hi);(try clear ho0);obtain ⟨Ao12,co12,eo12⟩:=Kd.R_slice HO131.out;subst eo12;have p134 : 0 ≤ (0 : Int):=(by omega);have q134 : 0 < (t127.length : Int):=of_decide_eq_true (by first|(with_reducible assumption)|assumption);obtain ⟨ad134,e134,hx134_0⟩:=Kd.at_int (Kd.R_reads' HO131.out).2.2 0 p134 q134;cases e134;have qi134 : (0 < t127.length) = True:=eq_true (by omega);(try rw [show ((0 : Int)).toNat = 0 from rfl] at hx134_0);(try rw [Addr.add_zero'] at hx134_0);replace p134:=eq_true p134;replace q134:=eq_true q134))
        repeat (go_quiet (first|((with_reducible refine gate_dst (N:=5) rfl ?_);refine box_event ?hg (N:=5) ?hd (cs:=#[.int .i64 0,.int .i64 0]) (t:=40) ?hr ?_;(case hd => rfl);(case hg => rfl);(case hr => first|(go_simp;done)|(go_simp;rfl));intro gb123 hg w10 hbox hb;have n0_:=Aside0.mk (below_step (by repeat (first|(with_reducible first|exact HB.out|apply below_alloc|apply pw_below_drewN|apply below_drew1)|exact HB.out)) hb);have n1_:=Aside0.mk (hbox);have n2_:=Aside0.mk ((by rw [hg];exact (below_size (by repeat (first|(with_reducible first|exact HB.out|apply below_alloc|apply pw_below_drewN|apply below_drew1)|exact HB.out))) : w.heap.size ≤ gb123));have n3_:=Aside0.mk ((by rw [hg];exact (below_size (by repeat (first|(with_reducible first|exact HB.out|apply below_alloc|apply pw_below_drewN|apply below_drew1)|exact HB.out))) : w.heap.size ≤ gb123));clear HB;have HB:=n0_;have BK123:=n1_;have GW123:=n2_;have GE123:=n3_;clear n0_ n1_ n2_ n3_;clear hb hbox hg)|(go_at_call 52;(with_reducible refine (trestleref04_header.calls k a0 t126 t127 t128 true _ A7.out).mono ?_);rintro e w11 ⟨v130,rfl,ho0,hb⟩;have n0_:=Aside0.mk (Kd.R_lower ho0 (below_size (by repeat (first|(with_reducible first|exact HB.out|apply below_alloc|apply pw_below_drewN|apply below_drew1|refine below_set ?_ GE123.out)|exact HB.out))));have n1_:=Aside0.mk (blk_below (g:=gb123) (o:=.cells #[.int .i64 0,.int .i64 0] 40 (0,0)) (by (with_reducible repeat (first|refine blk_drewN ?_ _|refine blk_drew ?_|refine blk_alloc ?_ _));exact BK123.out) hb);have n2_:=Aside0.mk (below_step (by repeat (first|(with_reducible first|exact HB.out|apply below_alloc|apply pw_below_drewN|apply below_drew1|refine below_set ?_ GE123.out)|exact HB.out)) hb);clear BK123;clear HB;have HO131:=n0_;have BK123:=n1_;have HB:=n2_;clear n0_ n1_ n2_;(try clear hb);(try clear hb2);(try clear hk);(try clear hi);(try clear ho0);obtain ⟨Ao12,co12,eo12⟩:=Kd.R_slice HO131.out;subst eo12;have p134 : 0 ≤ (0 : Int):=(by omega);have q134 : 0 < (t127.length : Int):=of_decide_eq_true (by first|(with_reducible assumption)|assumption);obtain ⟨ad134,e134,hx134_0⟩:=Kd.at_int (Kd.R_reads' HO131.out).2.2 0 p134 q134;cases e134;have qi134 : (0 < t127.length) = True:=eq_true (by omega);(try rw [show ((0 : Int)).toNat = 0 from rfl] at hx134_0);(try rw [Addr.add_zero'] at hx134_0);replace p134:=eq_true p134;replace q134:=eq_true q134));try go_wp2_with (first|((with_reducible refine gate_dst (N:=5) rfl ?_);refine box_event ?hg (N:=5) ?hd (cs:=#[.int .i64 0,.int .i64 0]) (t:=40) ?hr ?_;(case hd => rfl);(case hg => rfl);(case hr => first|(go_simp;done)|(go_simp;rfl));intro gb123 hg w10 hbox hb;have n0_:=Aside0.mk (below_step (by repeat (first|(with_reducible first|exact HB.out|apply below_alloc|apply pw_below_drewN|apply below_drew1)|exact HB.out)) hb);have n1_:=Aside0.mk (hbox);have n2_:=Aside0.mk ((by rw [hg];exact (below_size (by repeat (first|(with_reducible first|exact HB.out|apply below_alloc|apply pw_below_drewN|apply below_drew1)|exact HB.out))) : w.heap.size ≤ gb123));have n3_:=Aside0.mk ((by rw [hg];exact (below_size (by repeat (first|(with_reducible first|exact HB.out|apply below_alloc|apply pw_below_drewN|apply below_drew1)|exact HB.out))) : w.heap.size ≤ gb123));clear HB;have HB:=n0_;have BK123:=n1_;have GW123:=n2_;have GE123:=n3_;clear n0_ n1_ n2_ n3_;clear hb hbox hg)|(go_at_call 52;(with_reducible refine (trestleref04_header.calls k a0 t126 t127 t128 true _ A7.out).mono ?_);rintro e w11 ⟨v130,rfl,ho0,hb⟩;have n0_:=Aside0.mk (Kd.R_lower ho0 (below_size (by repeat (first|(with_reducible first|exact HB.out|apply below_alloc|apply pw_below_drewN|apply below_drew1|refine below_set ?_ GE123.out)|exact HB.out))));have n1_:=Aside0.mk (blk_below (g:=gb123) (o:=.cells #[.int .i64 0,.int .i64 0] 40 (0,0)) (by (with_reducible repeat (first|refine blk_drewN ?_ _|refine blk_drew ?_|refine blk_alloc ?_ _));exact BK123.out) hb);have n2_:=Aside0.mk (below_step (by repeat (first|(with_reducible first|exact HB.out|apply below_alloc|apply pw_below_drewN|apply below_drew1|refine below_set ?_ GE123.out)|exact HB.out)) hb);clear BK123;clear HB;have HO131:=n0_;have BK123:=n1_;have HB:=n2_;clear n0_ n1_ n2_;(try clear hb);(try clear hb2);(try clear hk);(try clear hi);(try clear ho0);obtain ⟨Ao12,co12,eo12⟩:=Kd.R_slice HO131.out;subst eo12;have p134 : 0 ≤ (0 : Int):=(by omega);have q134 : 0 < (t127.length : Int):=of_decide_eq_true (by first|(with_reducible assumption)|assumption);obtain ⟨ad134,e134,hx134_0⟩:=Kd.at_int (Kd.R_reads' HO131.out).2.2 0 p134 q134;cases e134;have qi134 : (0 < t127.length) = True:=eq_true (by omega);(try rw [show ((0 : Int)).toNat = 0 from rfl] at hx134_0);(try rw [Addr.add_zero'] at hx134_0);replace p134:=eq_true p134;replace q134:=eq_true q134)))
        (try simp only [Act.put,List.setIfInBounds_toArray,List.set_cons_zero,List.set_cons_succ])
        go_loopg [10,11] k (fun kq v10 v11 w' => ∃ (x10_1 : Bool) (x11_1 : Int),v10 = .bool x10_1 ∧ v11 = .int .i64 x11_1 ∧ Aside0 (trestleref04_Head.l0 kq t126 t127 t128 x10_1 x11_1 = some (r1,r2,r3,r4,r5)) ∧ Aside0 (kq ≤ k) ∧ Aside0 (Kd.R (Kd.int .i64) 3 w' w.heap.size (fun _ => True) (.slice (some ad134) t127.length co12) t127) ∧ Aside0 (w'.heap[gb123]? = some (.cells #[.int .i64 0,.int .i64 0] 40 (0,0))) ∧ Aside0 (Below w.heap.size w w'))
        case atStart => exact ⟨(decide ((rd t127 0) > 16384)),(1),(by first|rfl|(simp;done)|(simp [*];done)),(by first|rfl|(simp;done)|(simp [*];done)),H',⟨Nat.le_refl _⟩,⟨by (with_reducible repeat (first|apply Kd.R_alloc|apply Kd.R_drewN|apply Kd.R_drew));exact HO131.out⟩,⟨by (with_reducible repeat (first|refine blk_drewN ?_ _|refine blk_drew ?_|refine blk_alloc ?_ _));exact BK123.out⟩,⟨by repeat (first|(with_reducible first|exact HB.out|apply below_alloc|apply pw_below_drewN|apply below_drew1|refine below_set ?_ GE123.out)|exact HB.out)⟩⟩
        case round =>
          clear H'
          try clear p1
          try clear q1
          try clear hx1
          try clear qi1
          try clear c2
          try clear c2b0
          try clear c2b1
          try clear c2b2
          try clear p2
          try clear c8
          try clear c9
          try clear c9b0
          try clear c9b1
          try clear c9b2
          try clear hcz6_0
          try clear hcz6_1
          try clear hfz6_0
          try clear hfz6_1
          try clear hx134_0
          try clear p134
          try clear q134
          obtain ⟨x10_1,x11_1,rfl,rfl,HA,HK1,HO_7,BK123,HB⟩:=hrel
          cases gk with
          | zero => exact absurd HA.out (by simp [trestleref04_Head.l0])
          | succ k1 =>
            have H:=HA.out
            clear HA
            simp only [trestleref04_Head.l0] at H
            by_cases c13 : x11_1 < 9
            · rw [if_pos c13] at H
              have c13b0 : decide (x11_1 < 9) = true:=decide_eq_true c13
              clear c13
              by_cases c14 : x10_1 = true
              · subst c14
                have H1 : (trestleref04_Head.l0 k1 t126 t127 t128 true (wrap64 (x11_1 + 1))) = some (r1,r2,r3,r4,r5):=by rw [if_pos rfl] at H;exact H
                clear H
                have H:=H1
                clear H1
                have H':=Aside0.mk H
                clear H
                go_wp2
                repeat (go_quiet (fail);try go_wp2)
                go_roundg k1
                case measure => have:=HK1.out;omega
                case rel => exact ⟨(true),(wrap64 (x11_1 + 1)),(by first|rfl|(simp;done)|(simp [*];done)),(by first|rfl|(simp;done)|(simp [*];done)),H',⟨by have:=HK1.out;omega⟩,⟨by (with_reducible repeat (first|apply Kd.R_alloc|apply Kd.R_drewN|apply Kd.R_drew));exact HO_7.out⟩,⟨by (with_reducible repeat (first|refine blk_drewN ?_ _|refine blk_drew ?_|refine blk_alloc ?_ _));exact BK123.out⟩,⟨by repeat (first|(with_reducible first|exact HB.out|apply below_alloc|apply pw_below_drewN|apply below_drew1|refine below_set ?_ GE123.out)|exact HB.out)⟩⟩
              · replace c14:=Bool.eq_false_iff.mpr c14
                subst c14
                have H1 : (if 0 ≤ x11_1 then (if x11_1 < (t127.length : Int) then (trestleref04_Head.l0 k1 t126 t127 t128 (decide ((rd t127 x11_1) > 16384)) (wrap64 (x11_1 + 1))) else (none)) else (none)) = some (r1,r2,r3,r4,r5):=by rw [if_neg (show ¬ (false = true) by decide)] at H;exact H
                clear H
                have H:=H1
                clear H1
                by_cases c15 : 0 ≤ x11_1
                · rw [if_pos c15] at H
                  have c15b0 : decide (0 ≤ x11_1) = true:=decide_eq_true c15
                  clear c15
                  by_cases c16 : x11_1 < (t127.length : Int)
                  · rw [if_pos c16] at H
                    have c16b0 : decide (x11_1 < (t127.length : Int)) = true:=decide_eq_true c16
                    clear c16
                    have H':=Aside0.mk H
                    clear H
                    have p135 : 0 ≤ (x11_1 : Int):=of_decide_eq_true (by first|(with_reducible assumption)|assumption)
                    have q135 : x11_1 < (t127.length : Int):=of_decide_eq_true (by first|(with_reducible assumption)|assumption)
                    obtain ⟨ad135,e135,hx135_0⟩:=Kd.at_int (Kd.R_reads' HO_7.out).2.2 x11_1 p135 q135
                    obtain rfl : ad134 = ad135:=(by injection e135)
                    replace p135:=eq_true p135
                    replace q135:=eq_true q135
                    go_wp2
                    repeat (go_quiet (fail);try go_wp2)
                    go_roundg k1
                    case measure => have:=HK1.out;omega
                    case rel => exact ⟨(decide ((rd t127 x11_1) > 16384)),(wrap64 (x11_1 + 1)),(by first|rfl|(simp;done)|(simp [*];done)),(by first|rfl|(simp;done)|(simp [*];done)),H',⟨by have:=HK1.out;omega⟩,⟨by (with_reducible repeat (first|apply Kd.R_alloc|apply Kd.R_drewN|apply Kd.R_drew));exact HO_7.out⟩,⟨by (with_reducible repeat (first|refine blk_drewN ?_ _|refine blk_drew ?_|refine blk_alloc ?_ _));exact BK123.out⟩,⟨by repeat (first|(with_reducible first|exact HB.out|apply below_alloc|apply pw_below_drewN|apply below_drew1|refine below_set ?_ GE123.out)|exact HB.out)⟩⟩
                  · rw [if_neg c16] at H
                    exact absurd H (by simp)
                · rw [if_neg c15] at H
                  exact absurd H (by simp)
            · rw [if_neg c13] at H
              have c13b0 : decide (x11_1 < 9) = false:=decide_eq_false c13
              clear c13
              by_cases c17 : x10_1 = true
              · subst c17
                have H1 : ((trestleref04_fault.f 0 41).bind fun bt136 => (some ((⟨#[]⟩ : ByteArray),([] : List Int),0,bt136.1,bt136.2))) = some (r1,r2,r3,r4,r5):=by rw [if_pos rfl] at H;exact H
                clear H
                have H:=H1
                clear H1
                replace H:=Option.bind_eq_some_iff.mp H
                obtain ⟨⟨t136,t137⟩,A180,H⟩:=H
                replace H : (some ((⟨#[]⟩ : ByteArray),([] : List Int),0,t136,t137)) = some (r1,r2,r3,r4,r5):=H
                have A18:=Aside0.mk A180
                clear A180
                simp only [Option.some.injEq,Prod.mk.injEq] at H
                obtain ⟨rfl,rfl,rfl,rfl,rfl⟩:=H
                go_wp2_with (first|(go_at_call 51;(with_reducible refine (trestleref04_fault.calls 0 41 t136 t137 _ A18.out).mono ?_);rintro e w19 ⟨rfl,hb⟩;have n0_:=Aside0.mk (Kd.R_below (by (with_reducible repeat (first|apply Kd.R_alloc|apply Kd.R_drewN|apply Kd.R_drew));exact HO_7.out) hb);have n1_:=Aside0.mk (blk_below (g:=gb123) (o:=.cells #[.int .i64 0,.int .i64 0] 40 (0,0)) (by (with_reducible repeat (first|refine blk_drewN ?_ _|refine blk_drew ?_|refine blk_alloc ?_ _));exact BK123.out) hb);have n2_:=Aside0.mk (below_step (by repeat (first|(with_reducible first|exact HB.out|apply below_alloc|apply pw_below_drewN|apply below_drew1|refine below_set ?_ GE123.out)|exact HB.out)) hb);clear HO_7;clear BK123;clear HB;have HO_7:=n0_;have BK123:=n1_;have HB:=n2_;clear n0_ n1_ n2_;(try clear hb);(try clear hb2);(try clear hk);(try clear hi);have hcz20_0 : w19.cell? ⟨gb123,0,none⟩ = some (.int .i64 0):=(blk_cell BK123.out 0).trans rfl;have hcz20_1 : w19.cell? ⟨gb123,1,none⟩ = some (.int .i64 0):=(blk_cell BK123.out 1).trans rfl;have hfz20_0:=blk_frozen BK123.out 0;have hfz20_1:=blk_frozen BK123.out 1))
                repeat (go_quiet (first|(go_at_call 51;(with_reducible refine (trestleref04_fault.calls 0 41 t136 t137 _ A18.out).mono ?_);rintro e w19 ⟨rfl,hb⟩;have n0_:=Aside0.mk (Kd.R_below (by (with_reducible repeat (first|apply Kd.R_alloc|apply Kd.R_drewN|apply Kd.R_drew));exact HO_7.out) hb);have n1_:=Aside0.mk (blk_below (g:=gb123) (o:=.cells #[.int .i64 0,.int .i64 0] 40 (0,0)) (by (with_reducible repeat (first|refine blk_drewN ?_ _|refine blk_drew ?_|refine blk_alloc ?_ _));exact BK123.out) hb);have n2_:=Aside0.mk (below_step (by repeat (first|(with_reducible first|exact HB.out|apply below_alloc|apply pw_below_drewN|apply below_drew1|refine below_set ?_ GE123.out)|exact HB.out)) hb);clear HO_7;clear BK123;clear HB;have HO_7:=n0_;have BK123:=n1_;have HB:=n2_;clear n0_ n1_ n2_;(try clear hb);(try clear hb2);(try clear hk);(try clear hi);have hcz20_0 : w19.cell? ⟨gb123,0,none⟩ = some (.int .i64 0):=(blk_cell BK123.out 0).trans rfl;have hcz20_1 : w19.cell? ⟨gb123,1,none⟩ = some (.int .i64 0):=(blk_cell BK123.out 1).trans rfl;have hfz20_0:=blk_frozen BK123.out 0;have hfz20_1:=blk_frozen BK123.out 1));try go_wp2_with (first|(go_at_call 51;(with_reducible refine (trestleref04_fault.calls 0 41 t136 t137 _ A18.out).mono ?_);rintro e w19 ⟨rfl,hb⟩;have n0_:=Aside0.mk (Kd.R_below (by (with_reducible repeat (first|apply Kd.R_alloc|apply Kd.R_drewN|apply Kd.R_drew));exact HO_7.out) hb);have n1_:=Aside0.mk (blk_below (g:=gb123) (o:=.cells #[.int .i64 0,.int .i64 0] 40 (0,0)) (by (with_reducible repeat (first|refine blk_drewN ?_ _|refine blk_drew ?_|refine blk_alloc ?_ _));exact BK123.out) hb);have n2_:=Aside0.mk (below_step (by repeat (first|(with_reducible first|exact HB.out|apply below_alloc|apply pw_below_drewN|apply below_drew1|refine below_set ?_ GE123.out)|exact HB.out)) hb);clear HO_7;clear BK123;clear HB;have HO_7:=n0_;have BK123:=n1_;have HB:=n2_;clear n0_ n1_ n2_;(try clear hb);(try clear hb2);(try clear hk);(try clear hi);have hcz20_0 : w19.cell? ⟨gb123,0,none⟩ = some (.int .i64 0):=(blk_cell BK123.out 0).trans rfl;have hcz20_1 : w19.cell? ⟨gb123,1,none⟩ = some (.int .i64 0):=(blk_cell BK123.out 1).trans rfl;have hfz20_0:=blk_frozen BK123.out 0;have hfz20_1:=blk_frozen BK123.out 1)))
                refine bodyPost_ret (results_list (rs:=[.tmp 2,.tmp 3,.tmp 4,.cell 5 40]) rfl (by simp) (.tmp (.tmp (.tmp (.cell gb123 40 #[.int .i64 t136,.int .i64 t137] (0,0) _ rfl (by (with_reducible repeat (first|refine blk_drewN ?_ _|refine blk_drew ?_|refine blk_alloc ?_ _));refine blk_put (cs:=#[.int .i64 t136,.int .i64 0]) ?_ 1 _ rfl;(with_reducible repeat (first|refine blk_drewN ?_ _|refine blk_drew ?_|refine blk_alloc ?_ _));refine blk_put (cs:=#[.int .i64 0,.int .i64 0]) ?_ 0 _ rfl;(with_reducible repeat (first|refine blk_drewN ?_ _|refine blk_drew ?_|refine blk_alloc ?_ _));exact BK123.out) Tryd.underlying40 rfl (by kernel_rfl) .nil))))) rfl ?_
                exact ⟨_,by first|rfl|(simp [errW_none,errW_some] <;> rfl)|(simp [*,errW_none,errW_some] <;> rfl),by first|exact Kd.R_nil _ _ _ _ _|exact Kd.N_nil _ _ _ _ _|exact Kd.V_nil _ _ _ _ _|exact Kd.Q_nil _ _ _ _ _|exact Kd.S_nil _ _ _ _ _,by repeat (first|(with_reducible first|exact HB.out|apply below_alloc|apply pw_below_drewN|apply below_drew1|refine below_set ?_ GE123.out)|exact HB.out)⟩
              · replace c17:=Bool.eq_false_iff.mpr c17
                subst c17
                have H1 : (if 1 < (t127.length : Int) then (if 2 < (t127.length : Int) then (if 4 < (t127.length : Int) then (if 0 < (t127.length : Int) then (if (wrap64 ((wrap64 ((rd t127 1) + (rd t127 2))) + (rd t127 4))) > (rd t127 0) then ((trestleref04_fault.f 0 41).bind fun bt142 => (some ((⟨#[]⟩ : ByteArray),([] : List Int),0,bt142.1,bt142.2))) else (some (t126,t127,t128,0,0))) else (none)) else (none)) else (none)) else (none)) = some (r1,r2,r3,r4,r5):=by rw [if_neg (show ¬ (false = true) by decide)] at H;exact H
                clear H
                have H:=H1
                clear H1
                by_cases c21 : 1 < (t127.length : Int)
                · rw [if_pos c21] at H
                  have c21b0 : decide (1 < (t127.length : Int)) = true:=decide_eq_true c21
                  have c21b1 : decide (1 < t127.length) = true:=decide_eq_true (by omega)
                  have c21b2 : 1 < t127.length:=by omega
                  clear c21
                  by_cases c22 : 2 < (t127.length : Int)
                  · rw [if_pos c22] at H
                    have c22b0 : decide (2 < (t127.length : Int)) = true:=decide_eq_true c22
                    have c22b1 : decide (2 < t127.length) = true:=decide_eq_true (by omega)
                    have c22b2 : 2 < t127.length:=by omega
                    clear c22
                    by_cases c23 : 4 < (t127.length : Int)
                    · rw [if_pos c23] at H
                      have c23b0 : decide (4 < (t127.length : Int)) = true:=decide_eq_true c23
                      have c23b1 : decide (4 < t127.length) = true:=decide_eq_true (by omega)
                      have c23b2 : 4 < t127.length:=by omega
                      clear c23
                      by_cases c24 : 0 < (t127.length : Int)
                      · rw [if_pos c24] at H
                        have c24b0 : decide (0 < (t127.length : Int)) = true:=decide_eq_true c24
                        have c24b1 : decide (0 < t127.length) = true:=decide_eq_true (by omega)
                        have c24b2 : 0 < t127.length:=by omega
                        clear c24
                        by_cases c25 : (wrap64 ((wrap64 ((rd t127 1) + (rd t127 2))) + (rd t127 4))) > (rd t127 0)
                        · rw [if_pos c25] at H
                          have c25b0 : decide ((rd t127 0) < (wrap64 ((wrap64 ((rd t127 1) + (rd t127 2))) + (rd t127 4)))) = true:=decide_eq_true c25
                          clear c25
                          replace H:=Option.bind_eq_some_iff.mp H
                          obtain ⟨⟨t142,t143⟩,A260,H⟩:=H
                          replace H : (some ((⟨#[]⟩ : ByteArray),([] : List Int),0,t142,t143)) = some (r1,r2,r3,r4,r5):=H
                          have A26:=Aside0.mk A260
                          clear A260
                          simp only [Option.some.injEq,Prod.mk.injEq] at H
                          obtain ⟨rfl,rfl,rfl,rfl,rfl⟩:=H
                          have p138 : 0 ≤ (1 : Int):=(by omega)
                          have q138 : 1 < (t127.length : Int):=of_decide_eq_true (by first|(with_reducible assumption)|assumption)
                          obtain ⟨ad138,e138,hx138_0⟩:=Kd.at_int (Kd.R_reads' HO_7.out).2.2 1 p138 q138
                          obtain rfl : ad134 = ad138:=(by injection e138)
                          (try simp only [show (1 : Int).toNat = 1 from rfl,Nat.reduceMul,Nat.reduceEqDiff,Go.Addr.add,↓reduceIte] at hx138_0)
                          have qi138 : (1 < t127.length) = True:=eq_true (by omega)
                          (try rw [show ((1 : Int)).toNat = 1 from rfl] at hx138_0)
                          replace p138:=eq_true p138
                          replace q138:=eq_true q138
                          have p139 : 0 ≤ (2 : Int):=(by omega)
                          have q139 : 2 < (t127.length : Int):=of_decide_eq_true (by first|(with_reducible assumption)|assumption)
                          obtain ⟨ad139,e139,hx139_0⟩:=Kd.at_int (Kd.R_reads' HO_7.out).2.2 2 p139 q139
                          obtain rfl : ad134 = ad139:=(by injection e139)
                          (try simp only [show (2 : Int).toNat = 2 from rfl,Nat.reduceMul,Nat.reduceEqDiff,Go.Addr.add,↓reduceIte] at hx139_0)
                          have qi139 : (2 < t127.length) = True:=eq_true (by omega)
                          (try rw [show ((2 : Int)).toNat = 2 from rfl] at hx139_0)
                          replace p139:=eq_true p139
                          replace q139:=eq_true q139
                          have p140 : 0 ≤ (4 : Int):=(by omega)
                          have q140 : 4 < (t127.length : Int):=of_decide_eq_true (by first|(with_reducible assumption)|assumption)
                          obtain ⟨ad140,e140,hx140_0⟩:=Kd.at_int (Kd.R_reads' HO_7.out).2.2 4 p140 q140
                          obtain rfl : ad134 = ad140:=(by injection e140)
                          (try simp only [show (4 : Int).toNat = 4 from rfl,Nat.reduceMul,Nat.reduceEqDiff,Go.Addr.add,↓reduceIte] at hx140_0)
                          have qi140 : (4 < t127.length) = True:=eq_true (by omega)
                          (try rw [show ((4 : Int)).toNat = 4 from rfl] at hx140_0)
                          replace p140:=eq_true p140
                          replace q140:=eq_true q140
                          have p141 : 0 ≤ (0 : Int):=(by omega)
                          have q141 : 0 < (t127.length : Int):=of_decide_eq_true (by first|(with_reducible assumption)|assumption)
                          obtain ⟨ad141,e141,hx141_0⟩:=Kd.at_int (Kd.R_reads' HO_7.out).2.2 0 p141 q141
                          obtain rfl : ad134 = ad141:=(by injection e141)
                          have qi141 : (0 < t127.length) = True:=eq_true (by omega)
                          (try rw [show ((0 : Int)).toNat = 0 from rfl] at hx141_0)
                          (try rw [Addr.add_zero'] at hx141_0)
                          replace p141:=eq_true p141
                          replace q141:=eq_true q141
                          go_wp2_with (first|(go_at_call 51;(with_reducible refine (trestleref04_fault.calls 0 41 t142 t143 _ A26.out).mono ?_);rintro e w27 ⟨rfl,hb⟩;have n0_:=Aside0.mk (Kd.R_below (by (with_reducible repeat (first|apply Kd.R_alloc|apply Kd.R_drewN|apply Kd.R_drew));exact HO_7.out) hb);have n1_:=Aside0.mk (blk_below (g:=gb123) (o:=.cells #[.int .i64 0,.int .i64 0] 40 (0,0)) (by (with_reducible repeat (first|refine blk_drewN ?_ _|refine blk_drew ?_|refine blk_alloc ?_ _));exact BK123.out) hb);have n2_:=Aside0.mk (below_step (by repeat (first|(with_reducible first|exact HB.out|apply below_alloc|apply pw_below_drewN|apply below_drew1|refine below_set ?_ GE123.out)|exact HB.out)) hb);clear HO_7;clear BK123;clear HB;have HO_7:=n0_;have BK123:=n1_;have HB:=n2_;clear n0_ n1_ n2_;(try clear hb);(try clear hb2);(try clear hk);(try clear hi);have hcz28_0 : w27.cell? ⟨gb123,0,none⟩ = some (.int .i64 0):=(blk_cell BK123.out 0).trans rfl;have hcz28_1 : w27.cell? ⟨gb123,1,none⟩ = some (.int .i64 0):=(blk_cell BK123.out 1).trans rfl;have hfz28_0:=blk_frozen BK123.out 0;have hfz28_1:=blk_frozen BK123.out 1))
                          repeat (go_quiet (first|(go_at_call 51;(with_reducible refine (trestleref04_fault.calls 0 41 t142 t143 _ A26.out).mono ?_);rintro e w27 ⟨rfl,hb⟩;have n0_:=Aside0.mk (Kd.R_below (by (with_reducible repeat (first|apply Kd.R_alloc|apply Kd.R_drewN|apply Kd.R_drew));exact HO_7.out) hb);have n1_:=Aside0.mk (blk_below (g:=gb123) (o:=.cells #[.int .i64 0,.int .i64 0] 40 (0,0)) (by (with_reducible repeat (first|refine blk_drewN ?_ _|refine blk_drew ?_|refine blk_alloc ?_ _));exact BK123.out) hb);have n2_:=Aside0.mk (below_step (by repeat (first|(with_reducible first|exact HB.out|apply below_alloc|apply pw_below_drewN|apply below_drew1|refine below_set ?_ GE123.out)|exact HB.out)) hb);clear HO_7;clear BK123;clear HB;have HO_7:=n0_;have BK123:=n1_;have HB:=n2_;clear n0_ n1_ n2_;(try clear hb);(try clear hb2);(try clear hk);(try clear hi);have hcz28_0 : w27.cell? ⟨gb123,0,none⟩ = some (.int .i64 0):=(blk_cell BK123.out 0).trans rfl;have hcz28_1 : w27.cell? ⟨gb123,1,none⟩ = some (.int .i64 0):=(blk_cell BK123.out 1).trans rfl;have hfz28_0:=blk_frozen BK123.out 0;have hfz28_1:=blk_frozen BK123.out 1));try go_wp2_with (first|(go_at_call 51;(with_reducible refine (trestleref04_fault.calls 0 41 t142 t143 _ A26.out).mono ?_);rintro e w27 ⟨rfl,hb⟩;have n0_:=Aside0.mk (Kd.R_below (by (with_reducible repeat (first|apply Kd.R_alloc|apply Kd.R_drewN|apply Kd.R_drew));exact HO_7.out) hb);have n1_:=Aside0.mk (blk_below (g:=gb123) (o:=.cells #[.int .i64 0,.int .i64 0] 40 (0,0)) (by (with_reducible repeat (first|refine blk_drewN ?_ _|refine blk_drew ?_|refine blk_alloc ?_ _));exact BK123.out) hb);have n2_:=Aside0.mk (below_step (by repeat (first|(with_reducible first|exact HB.out|apply below_alloc|apply pw_below_drewN|apply below_drew1|refine below_set ?_ GE123.out)|exact HB.out)) hb);clear HO_7;clear BK123;clear HB;have HO_7:=n0_;have BK123:=n1_;have HB:=n2_;clear n0_ n1_ n2_;(try clear hb);(try clear hb2);(try clear hk);(try clear hi);have hcz28_0 : w27.cell? ⟨gb123,0,none⟩ = some (.int .i64 0):=(blk_cell BK123.out 0).trans rfl;have hcz28_1 : w27.cell? ⟨gb123,1,none⟩ = some (.int .i64 0):=(blk_cell BK123.out 1).trans rfl;have hfz28_0:=blk_frozen BK123.out 0;have hfz28_1:=blk_frozen BK123.out 1)))
                          refine bodyPost_ret (results_list (rs:=[.tmp 2,.tmp 3,.tmp 4,.cell 5 40]) rfl (by simp) (.tmp (.tmp (.tmp (.cell gb123 40 #[.int .i64 t142,.int .i64 t143] (0,0) _ rfl (by (with_reducible repeat (first|refine blk_drewN ?_ _|refine blk_drew ?_|refine blk_alloc ?_ _));refine blk_put (cs:=#[.int .i64 t142,.int .i64 0]) ?_ 1 _ rfl;(with_reducible repeat (first|refine blk_drewN ?_ _|refine blk_drew ?_|refine blk_alloc ?_ _));refine blk_put (cs:=#[.int .i64 0,.int .i64 0]) ?_ 0 _ rfl;(with_reducible repeat (first|refine blk_drewN ?_ _|refine blk_drew ?_|refine blk_alloc ?_ _));exact BK123.out) Tryd.underlying40 rfl (by kernel_rfl) .nil))))) rfl ?_
                          exact ⟨_,by first|rfl|(simp [errW_none,errW_some] <;> rfl)|(simp [*,errW_none,errW_some] <;> rfl),by first|exact Kd.R_nil _ _ _ _ _|exact Kd.N_nil _ _ _ _ _|exact Kd.V_nil _ _ _ _ _|exact Kd.Q_nil _ _ _ _ _|exact Kd.S_nil _ _ _ _ _,by repeat (first|(with_reducible first|exact HB.out|apply below_alloc|apply pw_below_drewN|apply below_drew1|refine below_set ?_ GE123.out)|exact HB.out)⟩
                        · rw [if_neg c25] at H
                          have c25b0 : decide ((rd t127 0) < (wrap64 ((wrap64 ((rd t127 1) + (rd t127 2))) + (rd t127 4)))) = false:=decide_eq_false c25
                          clear c25
                          simp only [Option.some.injEq,Prod.mk.injEq] at H
                          obtain ⟨rfl,rfl,rfl,rfl,rfl⟩:=H
                          have p138 : 0 ≤ (1 : Int):=(by omega)
                          have q138 : 1 < (t127.length : Int):=of_decide_eq_true (by first|(with_reducible assumption)|assumption)
                          obtain ⟨ad138,e138,hx138_0⟩:=Kd.at_int (Kd.R_reads' HO_7.out).2.2 1 p138 q138
                          obtain rfl : ad134 = ad138:=(by injection e138)
                          (try simp only [show (1 : Int).toNat = 1 from rfl,Nat.reduceMul,Nat.reduceEqDiff,Go.Addr.add,↓reduceIte] at hx138_0)
                          have qi138 : (1 < t127.length) = True:=eq_true (by omega)
                          (try rw [show ((1 : Int)).toNat = 1 from rfl] at hx138_0)
                          replace p138:=eq_true p138
                          replace q138:=eq_true q138
                          have p139 : 0 ≤ (2 : Int):=(by omega)
                          have q139 : 2 < (t127.length : Int):=of_decide_eq_true (by first|(with_reducible assumption)|assumption)
                          obtain ⟨ad139,e139,hx139_0⟩:=Kd.at_int (Kd.R_reads' HO_7.out).2.2 2 p139 q139
                          obtain rfl : ad134 = ad139:=(by injection e139)
                          (try simp only [show (2 : Int).toNat = 2 from rfl,Nat.reduceMul,Nat.reduceEqDiff,Go.Addr.add,↓reduceIte] at hx139_0)
                          have qi139 : (2 < t127.length) = True:=eq_true (by omega)
                          (try rw [show ((2 : Int)).toNat = 2 from rfl] at hx139_0)
                          replace p139:=eq_true p139
                          replace q139:=eq_true q139
                          have p140 : 0 ≤ (4 : Int):=(by omega)
                          have q140 : 4 < (t127.length : Int):=of_decide_eq_true (by first|(with_reducible assumption)|assumption)
                          obtain ⟨ad140,e140,hx140_0⟩:=Kd.at_int (Kd.R_reads' HO_7.out).2.2 4 p140 q140
                          obtain rfl : ad134 = ad140:=(by injection e140)
                          (try simp only [show (4 : Int).toNat = 4 from rfl,Nat.reduceMul,Nat.reduceEqDiff,Go.Addr.add,↓reduceIte] at hx140_0)
                          have qi140 : (4 < t127.length) = True:=eq_true (by omega)
                          (try rw [show ((4 : Int)).toNat = 4 from rfl] at hx140_0)
                          replace p140:=eq_true p140
                          replace q140:=eq_true q140
                          have p141 : 0 ≤ (0 : Int):=(by omega)
                          have q141 : 0 < (t127.length : Int):=of_decide_eq_true (by first|(with_reducible assumption)|assumption)
                          obtain ⟨ad141,e141,hx141_0⟩:=Kd.at_int (Kd.R_reads' HO_7.out).2.2 0 p141 q141
                          obtain rfl : ad134 = ad141:=(by injection e141)
                          have qi141 : (0 < t127.length) = True:=eq_true (by omega)
                          (try rw [show ((0 : Int)).toNat = 0 from rfl] at hx141_0)
                          (try rw [Addr.add_zero'] at hx141_0)
                          replace p141:=eq_true p141
                          replace q141:=eq_true q141
                          have hcz29_0 : wr.cell? ⟨gb123,0,none⟩ = some (.int .i64 0):=(blk_cell BK123.out 0).trans rfl
                          have hcz29_1 : wr.cell? ⟨gb123,1,none⟩ = some (.int .i64 0):=(blk_cell BK123.out 1).trans rfl
                          have hfz29_0:=blk_frozen BK123.out 0
                          have hfz29_1:=blk_frozen BK123.out 1
                          go_wp2
                          repeat (go_quiet (fail);try go_wp2)
                          refine bodyPost_ret (results_list (rs:=[.tmp 2,.tmp 3,.tmp 4,.cell 5 40]) rfl (by simp) (.tmp (.tmp (.tmp (.cell gb123 40 #[.int .i64 0,.int .i64 0] (0,0) _ rfl (by (with_reducible repeat (first|refine blk_drewN ?_ _|refine blk_drew ?_|refine blk_alloc ?_ _));refine blk_put (cs:=#[.int .i64 0,.int .i64 0]) ?_ 1 _ rfl;(with_reducible repeat (first|refine blk_drewN ?_ _|refine blk_drew ?_|refine blk_alloc ?_ _));refine blk_put (cs:=#[.int .i64 0,.int .i64 0]) ?_ 0 _ rfl;(with_reducible repeat (first|refine blk_drewN ?_ _|refine blk_drew ?_|refine blk_alloc ?_ _));exact BK123.out) Tryd.underlying40 rfl (by kernel_rfl) .nil))))) rfl ?_
                          exact ⟨_,by first|rfl|(simp [errW_none,errW_some] <;> rfl)|(simp [*,errW_none,errW_some] <;> rfl),by (with_reducible repeat (first|apply Kd.R_alloc|apply Kd.R_drewN|apply Kd.R_drew));exact Kd.R_mono (Kd.R_far (p:=⟨gb123,1,none⟩) (Kd.R_far (p:=⟨gb123,0,none⟩) (Kd.R_types HO_7.out BK123.out (by decide)) (fun _ hk => hk.2) (.int .i64 0)) (fun _ hk => hk.2) (.int .i64 0)) (fun _ hk => trivial),by repeat (first|(with_reducible first|exact HB.out|apply below_alloc|apply pw_below_drewN|apply below_drew1|refine below_set ?_ GE123.out)|exact HB.out)⟩
                      · rw [if_neg c24] at H
                        exact absurd H (by simp)
                    · rw [if_neg c23] at H
                      exact absurd H (by simp)
                  · rw [if_neg c22] at H
                    exact absurd H (by simp)
                · rw [if_neg c21] at H
                  exact absurd H (by simp)
      · rw [if_neg c9] at H
        exact absurd H (by simp)
    · replace c8:=Bool.eq_false_iff.mpr c8
      subst c8
      have H1 : ((trestleref04_fault.f 0 40).bind fun bt132 => (some ((⟨#[]⟩ : ByteArray),([] : List Int),0,bt132.1,bt132.2))) = some (r1,r2,r3,r4,r5):=by rw [if_neg (show ¬ (false = true) by decide)] at H;exact H
      clear H
      have H:=H1
      clear H1
      replace H:=Option.bind_eq_some_iff.mp H
      obtain ⟨⟨t132,t133⟩,A300,H⟩:=H
      replace H : (some ((⟨#[]⟩ : ByteArray),([] : List Int),0,t132,t133)) = some (r1,r2,r3,r4,r5):=H
      have A30:=Aside0.mk A300
      clear A300
      simp only [Option.some.injEq,Prod.mk.injEq] at H
      obtain ⟨rfl,rfl,rfl,rfl,rfl⟩:=H
      go_enter Tryd.func22,Tryd.ntmps22
      go_wp2_with (first|((with_reducible refine gate_dst (N:=5) rfl ?_);refine box_event ?hg (N:=5) ?hd (cs:=#[.int .i64 0,.int .i64 0]) (t:=40) ?hr ?_;(case hd => rfl);(case hg => rfl);(case hr => first|(go_simp;done)|(go_simp;rfl));intro gb123 hg w31 hbox hb;have n0_:=Aside0.mk (below_step (by repeat (first|(with_reducible first|exact HB.out|apply below_alloc|apply pw_below_drewN|apply below_drew1)|exact HB.out)) hb);have n1_:=Aside0.mk (hbox);have n2_:=Aside0.mk ((by rw [hg];exact (below_size (by repeat (first|(with_reducible first|exact HB.out|apply below_alloc|apply pw_below_drewN|apply below_drew1)|exact HB.out))) : w.heap.size ≤ gb123));have n3_:=Aside0.mk ((by rw [hg];exact (below_size (by repeat (first|(with_reducible first|exact HB.out|apply below_alloc|apply pw_below_drewN|apply below_drew1)|exact HB.out))) : w.heap.size ≤ gb123));clear HB;have HB:=n0_;have BK123:=n1_;have GW123:=n2_;have GE123:=n3_;clear n0_ n1_ n2_ n3_;clear hb hbox hg)|(go_at_call 52;(with_reducible refine (trestleref04_header.calls k a0 t126 t127 t128 false _ A7.out).mono ?_);rintro e w32 ⟨v130,rfl,ho0,hb⟩;have n0_:=Aside0.mk (Kd.R_lower ho0 (below_size (by repeat (first|(with_reducible first|exact HB.out|apply below_alloc|apply pw_below_drewN|apply below_drew1|refine below_set ?_ GE123.out)|exact HB.out))));have n1_:=Aside0.mk (blk_below (g:=gb123) (o:=.cells #[.int .i64 0,.int .i64 0] 40 (0,0)) (by (with_reducible repeat (first|refine blk_drewN ?_ _|refine blk_drew ?_|refine blk_alloc ?_ _));exact BK123.out) hb);have n2_:=Aside0.mk (below_step (by repeat (first|(with_reducible first|exact HB.out|apply below_alloc|apply pw_below_drewN|apply below_drew1|refine below_set ?_ GE123.out)|exact HB.out)) hb);clear BK123;clear HB;have HO131:=n0_;have BK123:=n1_;have HB:=n2_;clear n0_ n1_ n2_;(try clear hb);(try clear hb2);(try clear hk);(try clear hi);(try clear ho0))|(go_at_call 51;(with_reducible refine (trestleref04_fault.calls 0 40 t132 t133 _ A30.out).mono ?_);rintro e w33 ⟨rfl,hb⟩;have n0_:=Aside0.mk (Kd.R_below (by (with_reducible repeat (first|apply Kd.R_alloc|apply Kd.R_drewN|apply Kd.R_drew));exact HO131.out) hb);have n1_:=Aside0.mk (blk_below (g:=gb123) (o:=.cells #[.int .i64 0,.int .i64 0] 40 (0,0)) (by (with_reducible repeat (first|refine blk_drewN ?_ _|refine blk_drew ?_|refine blk_alloc ?_ _));exact BK123.out) hb);have n2_:=Aside0.mk (below_step (by repeat (first|(with_reducible first|exact HB.out|apply below_alloc|apply pw_below_drewN|apply below_drew1|refine below_set ?_ GE123.out)|exact HB.out)) hb);clear HO131;clear BK123;clear HB;have HO131:=n0_;have BK123:=n1_;have HB:=n2_;clear n0_ n1_ n2_;(try clear hb);(try clear hb2);(try clear hk);(try clear hi);have hcz34_0 : w33.cell? ⟨gb123,0,none⟩ = some (.int .i64 0):=(blk_cell BK123.out 0).trans rfl;have hcz34_1 : w33.cell? ⟨gb123,1,none⟩ = some (.int .i64 0):=(blk_cell BK123.out 1).trans rfl;have hfz34_0:=blk_frozen BK123.out 0;have hfz34_1:=blk_frozen BK123.out 1))
      repeat (go_quiet (first|((with_reducible refine gate_dst (N:=5) rfl ?_);refine box_event ?hg (N:=5) ?hd (cs:=#[.int .i64 0,.int .i64 0]) (t:=40) ?hr ?_;(case hd => rfl);(case hg => rfl);(case hr => first|(go_simp;done)|(go_simp;rfl));intro gb123 hg w31 hbox hb;have n0_:=Aside0.mk (below_step (by repeat (first|(with_reducible first|exact HB.out|apply below_alloc|apply pw_below_drewN|apply below_drew1)|exact HB.out)) hb);have n1_:=Aside0.mk (hbox);have n2_:=Aside0.mk ((by rw [hg];exact (below_size (by repeat (first|(with_reducible first|exact HB.out|apply below_alloc|apply pw_below_drewN|apply below_drew1)|exact HB.out))) : w.heap.size ≤ gb123));have n3_:=Aside0.mk ((by rw [hg];exact (below_size (by repeat (first|(with_reducible first|exact HB.out|apply below_alloc|apply pw_below_drewN|apply below_drew1)|exact HB.out))) : w.heap.size ≤ gb123));clear HB;have HB:=n0_;have BK123:=n1_;have GW123:=n2_;have GE123:=n3_;clear n0_ n1_ n2_ n3_;clear hb hbox hg)|(go_at_call 52;(with_reducible refine (trestleref04_header.calls k a0 t126 t127 t128 false _ A7.out).mono ?_);rintro e w32 ⟨v130,rfl,ho0,hb⟩;have n0_:=Aside0.mk (Kd.R_lower ho0 (below_size (by repeat (first|(with_reducible first|exact HB.out|apply below_alloc|apply pw_below_drewN|apply below_drew1|refine below_set ?_ GE123.out)|exact HB.out))));have n1_:=Aside0.mk (blk_below (g:=gb123) (o:=.cells #[.int .i64 0,.int .i64 0] 40 (0,0)) (by (with_reducible repeat (first|refine blk_drewN ?_ _|refine blk_drew ?_|refine blk_alloc ?_ _));exact BK123.out) hb);have n2_:=Aside0.mk (below_step (by repeat (first|(with_reducible first|exact HB.out|apply below_alloc|apply pw_below_drewN|apply below_drew1|refine below_set ?_ GE123.out)|exact HB.out)) hb);clear BK123;clear HB;have HO131:=n0_;have BK123:=n1_;have HB:=n2_;clear n0_ n1_ n2_;(try clear hb);(try clear hb2);(try clear hk);(try clear hi);(try clear ho0))|(go_at_call 51;(with_reducible refine (trestleref04_fault.calls 0 40 t132 t133 _ A30.out).mono ?_);rintro e w33 ⟨rfl,hb⟩;have n0_:=Aside0.mk (Kd.R_below (by (with_reducible repeat (first|apply Kd.R_alloc|apply Kd.R_drewN|apply Kd.R_drew));exact HO131.out) hb);have n1_:=Aside0.mk (blk_below (g:=gb123) (o:=.cells #[.int .i64 0,.int .i64 0] 40 (0,0)) (by (with_reducible repeat (first|refine blk_drewN ?_ _|refine blk_drew ?_|refine blk_alloc ?_ _));exact BK123.out) hb);have n2_:=Aside0.mk (below_step (by repeat (first|(with_reducible first|exact HB.out|apply below_alloc|apply pw_below_drewN|apply below_drew1|refine below_set ?_ GE123.out)|exact HB.out)) hb);clear HO131;clear BK123;clear HB;have HO131:=n0_;have BK123:=n1_;have HB:=n2_;clear n0_ n1_ n2_;(try clear hb);(try clear hb2);(try clear hk);(try clear hi);have hcz34_0 : w33.cell? ⟨gb123,0,none⟩ = some (.int .i64 0):=(blk_cell BK123.out 0).trans rfl;have hcz34_1 : w33.cell? ⟨gb123,1,none⟩ = some (.int .i64 0):=(blk_cell BK123.out 1).trans rfl;have hfz34_0:=blk_frozen BK123.out 0;have hfz34_1:=blk_frozen BK123.out 1));try go_wp2_with (first|((with_reducible refine gate_dst (N:=5) rfl ?_);refine box_event ?hg (N:=5) ?hd (cs:=#[.int .i64 0,.int .i64 0]) (t:=40) ?hr ?_;(case hd => rfl);(case hg => rfl);(case hr => first|(go_simp;done)|(go_simp;rfl));intro gb123 hg w31 hbox hb;have n0_:=Aside0.mk (below_step (by repeat (first|(with_reducible first|exact HB.out|apply below_alloc|apply pw_below_drewN|apply below_drew1)|exact HB.out)) hb);have n1_:=Aside0.mk (hbox);have n2_:=Aside0.mk ((by rw [hg];exact (below_size (by repeat (first|(with_reducible first|exact HB.out|apply below_alloc|apply pw_below_drewN|apply below_drew1)|exact HB.out))) : w.heap.size ≤ gb123));have n3_:=Aside0.mk ((by rw [hg];exact (below_size (by repeat (first|(with_reducible first|exact HB.out|apply below_alloc|apply pw_below_drewN|apply below_drew1)|exact HB.out))) : w.heap.size ≤ gb123));clear HB;have HB:=n0_;have BK123:=n1_;have GW123:=n2_;have GE123:=n3_;clear n0_ n1_ n2_ n3_;clear hb hbox hg)|(go_at_call 52;(with_reducible refine (trestleref04_header.calls k a0 t126 t127 t128 false _ A7.out).mono ?_);rintro e w32 ⟨v130,rfl,ho0,hb⟩;have n0_:=Aside0.mk (Kd.R_lower ho0 (below_size (by repeat (first|(with_reducible first|exact HB.out|apply below_alloc|apply pw_below_drewN|apply below_drew1|refine below_set ?_ GE123.out)|exact HB.out))));have n1_:=Aside0.mk (blk_below (g:=gb123) (o:=.cells #[.int .i64 0,.int .i64 0] 40 (0,0)) (by (with_reducible repeat (first|refine blk_drewN ?_ _|refine blk_drew ?_|refine blk_alloc ?_ _));exact BK123.out) hb);have n2_:=Aside0.mk (below_step (by repeat (first|(with_reducible first|exact HB.out|apply below_alloc|apply pw_below_drewN|apply below_drew1|refine below_set ?_ GE123.out)|exact HB.out)) hb);clear BK123;clear HB;have HO131:=n0_;have BK123:=n1_;have HB:=n2_;clear n0_ n1_ n2_;(try clear hb);(try clear hb2);(try clear hk);(try clear hi);(try clear ho0))|(go_at_call 51;(with_reducible refine (trestleref04_fault.calls 0 40 t132 t133 _ A30.out).mono ?_);rintro e w33 ⟨rfl,hb⟩;have n0_:=Aside0.mk (Kd.R_below (by (with_reducible repeat (first|apply Kd.R_alloc|apply Kd.R_drewN|apply Kd.R_drew));exact HO131.out) hb);have n1_:=Aside0.mk (blk_below (g:=gb123) (o:=.cells #[.int .i64 0,.int .i64 0] 40 (0,0)) (by (with_reducible repeat (first|refine blk_drewN ?_ _|refine blk_drew ?_|refine blk_alloc ?_ _));exact BK123.out) hb);have n2_:=Aside0.mk (below_step (by repeat (first|(with_reducible first|exact HB.out|apply below_alloc|apply pw_below_drewN|apply below_drew1|refine below_set ?_ GE123.out)|exact HB.out)) hb);clear HO131;clear BK123;clear HB;have HO131:=n0_;have BK123:=n1_;have HB:=n2_;clear n0_ n1_ n2_;(try clear hb);(try clear hb2);(try clear hk);(try clear hi);have hcz34_0 : w33.cell? ⟨gb123,0,none⟩ = some (.int .i64 0):=(blk_cell BK123.out 0).trans rfl;have hcz34_1 : w33.cell? ⟨gb123,1,none⟩ = some (.int .i64 0):=(blk_cell BK123.out 1).trans rfl;have hfz34_0:=blk_frozen BK123.out 0;have hfz34_1:=blk_frozen BK123.out 1)))
      refine bodyPost_ret (results_list (rs:=[.tmp 2,.tmp 3,.tmp 4,.cell 5 40]) rfl (by simp) (.tmp (.tmp (.tmp (.cell gb123 40 #[.int .i64 t132,.int .i64 t133] (0,0) _ rfl (by (with_reducible repeat (first|refine blk_drewN ?_ _|refine blk_drew ?_|refine blk_alloc ?_ _));refine blk_put (cs:=#[.int .i64 t132,.int .i64 0]) ?_ 1 _ rfl;(with_reducible repeat (first|refine blk_drewN ?_ _|refine blk_drew ?_|refine blk_alloc ?_ _));refine blk_put (cs:=#[.int .i64 0,.int .i64 0]) ?_ 0 _ rfl;(with_reducible repeat (first|refine blk_drewN ?_ _|refine blk_drew ?_|refine blk_alloc ?_ _));exact BK123.out) Tryd.underlying40 rfl (by kernel_rfl) .nil))))) rfl ?_
      exact ⟨_,by first|rfl|(simp [errW_none,errW_some] <;> rfl)|(simp [*,errW_none,errW_some] <;> rfl),by first|exact Kd.R_nil _ _ _ _ _|exact Kd.N_nil _ _ _ _ _|exact Kd.V_nil _ _ _ _ _|exact Kd.Q_nil _ _ _ _ _|exact Kd.S_nil _ _ _ _ _,by repeat (first|(with_reducible first|exact HB.out|apply below_alloc|apply pw_below_drewN|apply below_drew1|refine below_set ?_ GE123.out)|exact HB.out)⟩
end Go.Proofs.YtojepjkpnponoaaDoor.Asc

