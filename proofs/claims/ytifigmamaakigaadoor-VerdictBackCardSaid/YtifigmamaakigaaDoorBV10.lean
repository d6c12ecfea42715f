import Derived.Test.YtifigmamaakigaaDoorBV9
namespace Go.Proofs.YtifigmamaakigaaDoor.V
open Go Go.RowKit Go.Lib Go.Proofs.YtifigmamaakigaaDoorW.PrintWords Go.Proofs.YtifigmamaakigaaDoorW.PrintLast Go.Proofs.YtifigmamaakigaaDoorW.PrintMore
set_option linter.unusedVariables false
set_option linter.unusedSimpArgs false
theorem eqA29 (d : Nat) (w : World) (x0 y0 : Int) (x1 y1 : Int) :
    (Op.equalIn (d + 2) 29 (.agg #[.int .u8 x0,.int .i64 x1]) (.agg #[.int .u8 y0,.int .i64 y1])).run Tryd.prog w = .ok (x0 == y0 && (x1 == y1)) w:=by
  refine eqA_of Tryd.underlying29 (by kernel_rfl) ?_
  refine eqf_cons (by rfl) (by go_simp;rfl) (by go_simp;rfl) (by go_simp) ?_
  exact eqf_last (by rfl) (by go_simp;rfl) (by go_simp;rfl) (by go_simp)
theorem eqA37 (d : Nat) (w : World) (x0 y0 : Int) (x1 y1 : Int) :
    (Op.equalIn (d + 2) 37 (.agg #[.int .i64 x0,.int .i64 x1]) (.agg #[.int .i64 y0,.int .i64 y1])).run Tryd.prog w = .ok (x0 == y0 && (x1 == y1)) w:=by
  refine eqA_of Tryd.underlying37 (by kernel_rfl) ?_
  refine eqf_cons (by rfl) (by go_simp;rfl) (by go_simp;rfl) (by go_simp) ?_
  exact eqf_last (by rfl) (by go_simp;rfl) (by go_simp;rfl) (by go_simp)
theorem eqA31 (d : Nat) (w : World) (x0 y0 : Int) (x1 y1 : Int) (x2 y2 : ByteArray) (x3 y3 x4 y4 : Int) :
    (Op.equalIn (d + 4) 31 (.agg #[.int .u8 x0,.int .i64 x1,.string x2,.int .i64 x3,.int .i64 x4]) (.agg #[.int .u8 y0,.int .i64 y1,.string y2,.int .i64 y3,.int .i64 y4])).run Tryd.prog w = .ok ((x0 == y0 && (x1 == y1)) && (x2.toList == y2.toList && (x3 == y3 && (x4 == y4)))) w:=by
  refine eqA_of Tryd.underlying31 (by kernel_rfl) ?_
  refine eqf_cons (a:=.agg #[.int .u8 x0,.int .i64 x1]) (b:=.agg #[.int .u8 y0,.int .i64 y1]) (by rfl) (by kernel_rfl) (by kernel_rfl) (eqA29 _ w x0 y0 x1 y1) ?_
  refine eqf_cons (by rfl) (by go_simp;rfl) (by go_simp;rfl) (by go_simp) ?_
  refine eqf_cons (by rfl) (by go_simp;rfl) (by go_simp;rfl) (by go_simp) ?_
  exact eqf_last (by rfl) (by go_simp;rfl) (by go_simp;rfl) (by go_simp)
attribute [local go_sem high] eqA29 eqA31 eqA37
set_option maxHeartbeats 4000000 in
set_option maxRecDepth 100000 in
theorem same_calls {w : World} {A B : Option Addr} {c d : Nat} {xs : List RW} (hA : Kd.C kR w A xs.length xs) (hB : Kd.C kR w B xs.length xs) :
    Calls Tryd.prog 7 #[.slice A xs.length c,.slice B xs.length d] w fun e w' => e = .returned (.bool true) ∧ Below w.heap.size w w':=by
  have hu31:=Tryd.underlying31
  have HA:=Aside0.mk hA
  have HB:=Aside0.mk hB
  have HL : Aside0 (xs.length ≤ 9223372036854775807):=⟨hA.2.1⟩
  clear hA hB
  go_enter Tryd.func7,Tryd.ntmps7
  go_wp2
  repeat (go_quiet (fail);try go_wp2)
  (try simp only [Act.put,List.setIfInBounds_toArray,List.set_cons_zero,List.set_cons_succ])
  go_loopg [5] (xs.length + 1) (fun kq v w' => ∃ (n : Nat),v = .int .i64 n ∧ Aside0 (n + kq = xs.length + 1) ∧ Aside0 (n ≤ xs.length) ∧ Aside0 (Below w.heap.size w w'))
  case atStart => exact ⟨0,rfl,⟨by omega⟩,⟨Nat.zero_le _⟩,⟨Below.refl _ _⟩⟩
  case round =>
    obtain ⟨n,rfl,HN,HNL,HBW⟩:=hrel
    cases gk with
    | zero =>
      have h1:=HN.out
      have h2:=HNL.out
      omega
    | succ k1 =>
      by_cases cn : n < xs.length
      · have cnb : decide ((n : Int) < (xs.length : Int)) = true:=decide_eq_true (by omega)
        have p0 : (0 ≤ (n : Int)) = True:=eq_true (by omega)
        have p1 : ((n : Int) < (xs.length : Int)) = True:=eq_true (by omega)
        have hw1 : IntKind.i64.wrap ((n : Int) + 1) = ((n + 1 : Nat) : Int):=by have:=HL.out;rw [IntKind.wrap_i64];omega
        obtain ⟨ad,ea,hx0,hx1,hx2,hx3,hx4⟩:=row_at (Kd.C_below HA.out HBW.out) n cn
        cases ea
        obtain ⟨ad2,ea,hy0,hy1,hy2,hy3,hy4⟩:=row_at (Kd.C_below HB.out HBW.out) n cn
        cases ea
        generalize xs[n] = x at hx0 hx1 hx2 hx3 hx4 hy0 hy1 hy2 hy3 hy4
        obtain ⟨q0,q1,q2,q3,q4⟩:=x
        dsimp only at hx0 hx1 hx2 hx3 hx4 hy0 hy1 hy2 hy3 hy4
        go_wp2
        repeat (go_quiet (fail);try go_wp2)
        go_roundg k1
        case measure => omega
        case rel => exact ⟨n + 1,rfl,⟨by have:=HN.out;omega⟩,⟨by omega⟩,⟨HBW.out.trans (SHlower HBW.out.size (below_drewN0 _ _))⟩⟩
      · have hn : n = xs.length:=by have:=HNL.out;omega
        subst hn
        clear cn
        go_wp2
        repeat (go_quiet (fail);try go_wp2)
        go_ret
        exact ⟨rfl,HBW.out⟩
end Go.Proofs.YtifigmamaakigaaDoor.V

