import Derived.Test.YtojepjkpnponoaaDoorHAsc3
import Derived.Test.YtojepjkpnponoaaDoorHGV
namespace Go.Proofs.YtojepjkpnponoaaDoor.Asc
open Go.RowKit Go.Proofs.YtojepjkpnponoaaDoorW.PrintWords Go.Proofs.YtojepjkpnponoaaDoorW.PrintLast Go.Proofs.YtojepjkpnponoaaDoorW.PrintMore
attribute [local go_sem] max2_int min2_int max_two min_two max_three min_three max_four min_four
set_option linter.unusedVariables false
set_option linter.unusedSimpArgs false
def trestleref04_Numbers.l0 : Nat → ByteArray → List Int → Int → Option (List Int × Bool)
  | 0,_,_,_ => none
  | k + 1,x0,x4,x5 => (trestleref02_Number0.f k x0 x5).bind fun bt107 => (if bt107.2.2 = true then (if x4.length < 17592186044416 then ((some (x4 ++ [bt107.1] : List Int)).bind fun y110 => (if bt107.2.1 = (x0.size : Int) then (some (y110,true)) else (if 0 ≤ bt107.2.1 then (if bt107.2.1 < (x0.size : Int) then (if (bt x0 bt107.2.1) = 32 then (trestleref04_Numbers.l0 k x0 y110 (wrap64 (bt107.2.1 + 1))) else (some (([] : List Int),false))) else (none)) else (none)))) else (none)) else (some (([] : List Int),false)))
def trestleref04_Numbers.f (k : Nat) (a0 : ByteArray) : Option (List Int × Bool):=trestleref04_Numbers.l0 k a0 ([] : List Int) 0
set_option maxHeartbeats 8000000 in
set_option maxRecDepth 100000 in
theorem trestleref04_Numbers.calls (k : Nat) (a0 : ByteArray) (r1 : List Int) (r2 : Bool) (w : World) (h : trestleref04_Numbers.f k a0 = some (r1,r2)) :
    Calls Tryd.prog 80 #[.string a0] w fun e w' => ∃ v0_ : Value,e = .returned (.tuple #[v0_,.bool r2]) ∧ Kd.R (Kd.int .i64) 3 w' w.heap.size (fun _ => True) v0_ r1 ∧ Below w.heap.size w w':=by
  have HB:=Aside0.mk (Below.refl w.heap.size w)
  have H : (trestleref04_Numbers.l0 k a0 ([] : List Int) 0) = some (r1,r2):=h
  clear h
  have H':=Aside0.mk H
  clear H
  go_enter Tryd.func80,Tryd.ntmps80
  go_wp2
  (try simp only [Act.put,List.setIfInBounds_toArray,List.set_cons_zero,List.set_cons_succ])
  go_loopg [4,5] k (fun kq v4 v5 w' => ∃ (x4_1 : List Int) (x5_1 : Int),v5 = .int .i64 x5_1 ∧ Aside0 (trestleref04_Numbers.l0 kq a0 x4_1 x5_1 = some (r1,r2)) ∧ Aside0 (kq ≤ k) ∧ Aside0 (Kd.R (Kd.int .i64) 3 w' w.heap.size (fun _ => True) v4 x4_1) ∧ Aside0 (Below w.heap.size w w'))
  case atStart => exact ⟨(([] : List Int)),(0),(by first|rfl|(simp;done)|(simp [*];done)),H',⟨Nat.le_refl _⟩,⟨by first|exact Kd.R_nil _ _ _ _ _|exact Kd.N_nil _ _ _ _ _|exact Kd.V_nil _ _ _ _ _|exact Kd.Q_nil _ _ _ _ _|exact Kd.S_nil _ _ _ _ _⟩,⟨by repeat (first|(with_reducible first|exact HB.out|apply below_alloc|apply pw_below_drewN|apply below_drew1)|exact HB.out)⟩⟩
  case round =>
    clear H'
    obtain ⟨x4_1,x5_1,rfl,HA,HK1,HO_4,HB⟩:=hrel
    cases gk with
    | zero => exact absurd HA.out (by simp [trestleref04_Numbers.l0])
    | succ k1 =>
      have H:=HA.out
      clear HA
      simp only [trestleref04_Numbers.l0] at H
      replace H:=Option.bind_eq_some_iff.mp H
      obtain ⟨⟨t107,t108,t109⟩,A20,H⟩:=H
      replace H : (if t109 = true then (if x4_1.length < 17592186044416 then ((some (x4_1 ++ [t107] : List Int)).bind fun y110 => (if t108 = (a0.size : Int) then (some (y110,true)) else (if 0 ≤ t108 then (if t108 < (a0.size : Int) then (if (bt a0 t108) = 32 then (trestleref04_Numbers.l0 k1 a0 y110 (wrap64 (t108 + 1))) else (some (([] : List Int),false))) else (none)) else (none)))) else (none)) else (some (([] : List Int),false))) = some (r1,r2):=H
      have A2:=Aside0.mk A20
      clear A20
      by_cases c3 : t109 = true
      · subst c3
        have H1 : (if x4_1.length < 17592186044416 then ((some (x4_1 ++ [t107] : List Int)).bind fun y110 => (if t108 = (a0.size : Int) then (some (y110,true)) else (if 0 ≤ t108 then (if t108 < (a0.size : Int) then (if (bt a0 t108) = 32 then (trestleref04_Numbers.l0 k1 a0 y110 (wrap64 (t108 + 1))) else (some (([] : List Int),false))) else (none)) else (none)))) else (none)) = some (r1,r2):=by rw [if_pos rfl] at H;exact H
        clear H
        have H:=H1
        clear H1
        by_cases c4 : x4_1.length < 17592186044416
        · rw [if_pos c4] at H
          have LMc4:=Aside0.mk c4
          clear c4
          obtain ⟨y110,hy110⟩ : ∃ y_ : List Int,y_ = (x4_1 ++ [t107]):=⟨_,rfl⟩
          replace H : (if t108 = (a0.size : Int) then (some (y110,true)) else (if 0 ≤ t108 then (if t108 < (a0.size : Int) then (if (bt a0 t108) = 32 then (trestleref04_Numbers.l0 k1 a0 y110 (wrap64 (t108 + 1))) else (some (([] : List Int),false))) else (none)) else (none))) = some (r1,r2):=by first|(rw [hy110];with_reducible exact H)|(have H2_:=(Option.bind_some _ _).symm.trans H;rw [hy110];with_reducible exact H2_)|(have H2_:=(Option.bind_some _ _).symm.trans H;with_reducible exact H2_)|with_reducible exact H|(rw [hy110];exact H)|exact H
          have Ny110:=Aside0.mk hy110
          clear hy110
          by_cases c5 : t108 = (a0.size : Int)
          · rw [if_pos c5] at H
            have c5b0 : (t108 == (a0.size : Int)) = true:=beq_iff_eq.mpr c5
            have c5b1 : (t108 != (a0.size : Int)) = false:=bne_eq_false_iff_eq.mpr c5
            clear c5
            simp only [Option.some.injEq,Prod.mk.injEq] at H
            obtain ⟨rfl,rfl⟩:=H
            go_wp2_with (first|((with_reducible refine gate_callee (f:=83) rfl ?_);refine goesL_ (some 12) rfl rfl Tryd.func83 (by kernel_rfl) rfl #[.string a0,.int .i64 x5_1] rfl (by (try simp only [List.map_toArray,List.map_cons,List.map_nil]);first|done|rfl|(simp only [List.length_drop,List.length_take];rfl)) ?_;(with_reducible refine (trestleref02_Number0.calls k1 a0 x5_1 t107 t108 true _ A2.out).mono ?_);rintro e w' ⟨rfl,⟨nd,rfl⟩⟩;refine ⟨_,rfl,?_⟩)|((with_reducible refine gate_builtin (b:=.append) (xs:=#[.tmp 18,.tmp 20]) rfl ?_);at_builtin;refine Kd.R_append (Kd.int .i64) (w0:=w) w.heap.size rfl (.tmp 18) (.tmp 20) 47 3 (.int .i64 0) 8 rfl Tryd.underlying47 info3 rfl (by decide) (by omega) u4 x4_1 t107 [.int .i64 t107] (fun _ => True) (fun _ => False) rfl rfl ?aP (fun _ hk => hk.elim) ?aF ?aO ?aB ?aS ?aL ?_;(case aP => exact rfl);(case aB => exact (by repeat (first|(with_reducible first|exact HB.out|apply below_alloc|apply pw_below_drewN|apply below_drew1)|exact HB.out)));(case aF => exact (fun _ _ => trivial));(case aO => exact (by (with_reducible repeat (first|apply Kd.R_alloc|apply Kd.R_drewN|apply Kd.R_drew));exact HO_4.out));(case aS => exact (below_size (by repeat (first|(with_reducible first|exact HB.out|apply below_alloc|apply pw_below_drewN|apply below_drew1)|exact HB.out))));(case aL => have:=LMc4.out;omega);intro v111 w6 ho hb hg hat;rw [← Ny110.out] at ho;have n0_:=Aside0.mk (hb);have n1_:=Aside0.mk (ho);clear HB;clear HO_4;have HB:=n0_;have HO112:=n1_;clear n0_ n1_;clear ho hb hg hat))
            go_ret2
            exact ⟨_,by first|rfl|(simp [errW_none,errW_some] <;> rfl)|(simp [*,errW_none,errW_some] <;> rfl),by (with_reducible repeat (first|apply Kd.R_alloc|apply Kd.R_drewN|apply Kd.R_drew));exact HO112.out,by repeat (first|(with_reducible first|exact HB.out|apply below_alloc|apply pw_below_drewN|apply below_drew1)|exact HB.out)⟩
          · rw [if_neg c5] at H
            have c5b0 : (t108 == (a0.size : Int)) = false:=beq_eq_false_iff_ne.mpr c5
            have c5b1 : (t108 != (a0.size : Int)) = true:=bne_iff_ne.mpr c5
            by_cases c7 : 0 ≤ t108
            · rw [if_pos c7] at H
              have c7b0 : decide (0 ≤ t108) = true:=decide_eq_true c7
              clear c7
              by_cases c8 : t108 < (a0.size : Int)
              · rw [if_pos c8] at H
                have c8b0 : decide (t108 < (a0.size : Int)) = true:=decide_eq_true c8
                clear c8
                by_cases c10 : (bt a0 t108) = 32
                · rw [if_pos c10] at H
                  have c10b0 : ((bt a0 t108) == 32) = true:=beq_iff_eq.mpr c10
                  have c10b1 : ((bt a0 t108) != 32) = false:=bne_eq_false_iff_eq.mpr c10
                  clear c10
                  have H':=Aside0.mk H
                  clear H
                  go_wp2_with (first|((with_reducible refine gate_callee (f:=83) rfl ?_);refine goesL_ (some 12) rfl rfl Tryd.func83 (by kernel_rfl) rfl #[.string a0,.int .i64 x5_1] rfl (by (try simp only [List.map_toArray,List.map_cons,List.map_nil]);first|done|rfl|(simp only [List.length_drop,List.length_take];rfl)) ?_;(with_reducible refine (trestleref02_Number0.calls k1 a0 x5_1 t107 t108 true _ A2.out).mono ?_);rintro e w' ⟨rfl,⟨nd,rfl⟩⟩;refine ⟨_,rfl,?_⟩)|((with_reducible refine gate_builtin (b:=.append) (xs:=#[.tmp 18,.tmp 20]) rfl ?_);at_builtin;refine Kd.R_append (Kd.int .i64) (w0:=w) w.heap.size rfl (.tmp 18) (.tmp 20) 47 3 (.int .i64 0) 8 rfl Tryd.underlying47 info3 rfl (by decide) (by omega) u4 x4_1 t107 [.int .i64 t107] (fun _ => True) (fun _ => False) rfl rfl ?aP (fun _ hk => hk.elim) ?aF ?aO ?aB ?aS ?aL ?_;(case aP => exact rfl);(case aB => exact (by repeat (first|(with_reducible first|exact HB.out|apply below_alloc|apply pw_below_drewN|apply below_drew1)|exact HB.out)));(case aF => exact (fun _ _ => trivial));(case aO => exact (by (with_reducible repeat (first|apply Kd.R_alloc|apply Kd.R_drewN|apply Kd.R_drew));exact HO_4.out));(case aS => exact (below_size (by repeat (first|(with_reducible first|exact HB.out|apply below_alloc|apply pw_below_drewN|apply below_drew1)|exact HB.out))));(case aL => have:=LMc4.out;omega);intro v111 w11 ho hb hg hat;rw [← Ny110.out] at ho;have n0_:=Aside0.mk (hb);have n1_:=Aside0.mk (ho);clear HB;clear HO_4;have HB:=n0_;have HO112:=n1_;clear n0_ n1_;clear ho hb hg hat;have p9 : 0 ≤ (t108 : Int):=of_decide_eq_true (by first|(with_reducible assumption)|assumption);have q9 : t108 < (a0.size : Int):=of_decide_eq_true (by first|(with_reducible assumption)|assumption);have hx9:=bt_at a0 t108;replace p9:=eq_true p9;replace q9:=eq_true q9))
                  go_roundg k1
                  case measure => have:=HK1.out;omega
                  case rel => exact ⟨(y110),(wrap64 (t108 + 1)),(by first|rfl|(simp;done)|(simp [*];done)),H',⟨by have:=HK1.out;omega⟩,⟨by (with_reducible repeat (first|apply Kd.R_alloc|apply Kd.R_drewN|apply Kd.R_drew));exact HO112.out⟩,⟨by repeat (first|(with_reducible first|exact HB.out|apply below_alloc|apply pw_below_drewN|apply below_drew1)|exact HB.out)⟩⟩
                · rw [if_neg c10] at H
                  have c10b0 : ((bt a0 t108) == 32) = false:=beq_eq_false_iff_ne.mpr c10
                  have c10b1 : ((bt a0 t108) != 32) = true:=bne_iff_ne.mpr c10
                  simp only [Option.some.injEq,Prod.mk.injEq] at H
                  obtain ⟨rfl,rfl⟩:=H
                  go_wp2_with (first|((with_reducible refine gate_callee (f:=83) rfl ?_);refine goesL_ (some 12) rfl rfl Tryd.func83 (by kernel_rfl) rfl #[.string a0,.int .i64 x5_1] rfl (by (try simp only [List.map_toArray,List.map_cons,List.map_nil]);first|done|rfl|(simp only [List.length_drop,List.length_take];rfl)) ?_;(with_reducible refine (trestleref02_Number0.calls k1 a0 x5_1 t107 t108 true _ A2.out).mono ?_);rintro e w' ⟨rfl,⟨nd,rfl⟩⟩;refine ⟨_,rfl,?_⟩)|((with_reducible refine gate_builtin (b:=.append) (xs:=#[.tmp 18,.tmp 20]) rfl ?_);at_builtin;refine Kd.R_append (Kd.int .i64) (w0:=w) w.heap.size rfl (.tmp 18) (.tmp 20) 47 3 (.int .i64 0) 8 rfl Tryd.underlying47 info3 rfl (by decide) (by omega) u4 x4_1 t107 [.int .i64 t107] (fun _ => True) (fun _ => False) rfl rfl ?aP (fun _ hk => hk.elim) ?aF ?aO ?aB ?aS ?aL ?_;(case aP => exact rfl);(case aB => exact (by repeat (first|(with_reducible first|exact HB.out|apply below_alloc|apply pw_below_drewN|apply below_drew1)|exact HB.out)));(case aF => exact (fun _ _ => trivial));(case aO => exact (by (with_reducible repeat (first|apply Kd.R_alloc|apply Kd.R_drewN|apply Kd.R_drew));exact HO_4.out));(case aS => exact (below_size (by repeat (first|(with_reducible first|exact HB.out|apply below_alloc|apply pw_below_drewN|apply below_drew1)|exact HB.out))));(case aL => have:=LMc4.out;omega);intro v111 w12 ho hb hg hat;rw [← Ny110.out] at ho;have n0_:=Aside0.mk (hb);have n1_:=Aside0.mk (ho);clear HB;clear HO_4;have HB:=n0_;have HO112:=n1_;clear n0_ n1_;clear ho hb hg hat;have p9 : 0 ≤ (t108 : Int):=of_decide_eq_true (by first|(with_reducible assumption)|assumption);have q9 : t108 < (a0.size : Int):=of_decide_eq_true (by first|(with_reducible assumption)|assumption);have hx9:=bt_at a0 t108;replace p9:=eq_true p9;replace q9:=eq_true q9))
                  go_ret2
                  exact ⟨_,by first|rfl|(simp [errW_none,errW_some] <;> rfl)|(simp [*,errW_none,errW_some] <;> rfl),by first|exact Kd.R_nil _ _ _ _ _|exact Kd.N_nil _ _ _ _ _|exact Kd.V_nil _ _ _ _ _|exact Kd.Q_nil _ _ _ _ _|exact Kd.S_nil _ _ _ _ _,by repeat (first|(with_reducible first|exact HB.out|apply below_alloc|apply pw_below_drewN|apply below_drew1)|exact HB.out)⟩
              · rw [if_neg c8] at H
                exact absurd H (by simp)
            · rw [if_neg c7] at H
              exact absurd H (by simp)
        · rw [if_neg c4] at H
          exact absurd H (by simp)
      · replace c3:=Bool.eq_false_iff.mpr c3
        subst c3
        have H1 : (some (([] : List Int),false)) = some (r1,r2):=by rw [if_neg (show ¬ (false = true) by decide)] at H;exact H
        clear H
        have H:=H1
        clear H1
        simp only [Option.some.injEq,Prod.mk.injEq] at H
        obtain ⟨rfl,rfl⟩:=H
        go_wp2_with (first|((with_reducible refine gate_callee (f:=83) rfl ?_);refine goesL_ (some 12) rfl rfl Tryd.func83 (by kernel_rfl) rfl #[.string a0,.int .i64 x5_1] rfl (by (try simp only [List.map_toArray,List.map_cons,List.map_nil]);first|done|rfl|(simp only [List.length_drop,List.length_take];rfl)) ?_;(with_reducible refine (trestleref02_Number0.calls k1 a0 x5_1 t107 t108 false _ A2.out).mono ?_);rintro e w' ⟨rfl,⟨nd,rfl⟩⟩;refine ⟨_,rfl,?_⟩))
        go_ret2
        exact ⟨_,by first|rfl|(simp [errW_none,errW_some] <;> rfl)|(simp [*,errW_none,errW_some] <;> rfl),by first|exact Kd.R_nil _ _ _ _ _|exact Kd.N_nil _ _ _ _ _|exact Kd.V_nil _ _ _ _ _|exact Kd.Q_nil _ _ _ _ _|exact Kd.S_nil _ _ _ _ _,by repeat (first|(with_reducible first|exact HB.out|apply below_alloc|apply pw_below_drewN|apply below_drew1)|exact HB.out)⟩
end Go.Proofs.YtojepjkpnponoaaDoor.Asc

