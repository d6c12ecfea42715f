import Derived.Test.YtojepjkpnponoaaDoorFStim5
import Derived.Test.YtojepjkpnponoaaDoorFGV
set_option linter.unusedSimpArgs false
namespace Go.Proofs.YtojepjkpnponoaaDoor.Stim
open Go Go.RowKit Go.Proofs.YtojepjkpnponoaaDoorW.PrintWords Go.Proofs.YtojepjkpnponoaaDoorW.PrintLast Go.Proofs.YtojepjkpnponoaaDoorW.PrintMore
set_option linter.unusedVariables false
set_option maxRecDepth 100000 in
theorem stim_begun_long (a0 : ByteArray) (a1 a2 : Int) (w : World) (h : a0.size > 262144) :
    Calls Tryd.prog 46 #[.string a0,.int .i64 a1,.int .i64 a2] w fun e w' => e = .returned (.tuple #[.pointer none,.agg #[.int .i64 0,.int .i64 2]]) ∧ Below w.heap.size w w':=by
  have hu40:=Tryd.underlying40
  have c2b0 : decide ((a0.size : Int) > 262144) = true:=decide_eq_true (by omega)
  go_enter Tryd.func46,Tryd.ntmps46
  go_wp2
  repeat (go_quiet (fail);try go_wp2)
  exact bodyPost_ret (results_tc rfl _ _ w.heap.size 40 #[.int .i64 0,.int .i64 2] (0,0) _ rfl (blk_new w _) Tryd.underlying40 rfl (by kernel_rfl)) rfl ⟨rfl,eA_ (Below.refl _ _) _⟩
theorem sized_true {a1 a2 : Int} : stim_sized.f a1 a2 = some true ↔ 0 ≤ a1 ∧ a1 ≤ 16384 ∧ 0 ≤ a2 ∧ a2 ≤ 16384:=by
  unfold stim_sized.f
  repeat' split
  all_goals simp
  all_goals omega
theorem sized_false {a1 a2 : Int} : stim_sized.f a1 a2 = some false ↔ ¬ (0 ≤ a1 ∧ a1 ≤ 16384 ∧ 0 ≤ a2 ∧ a2 ≤ 16384):=by
  unfold stim_sized.f
  repeat' split
  all_goals simp
  all_goals omega
set_option maxRecDepth 100000 in
theorem stim_begun_range (a0 : ByteArray) (a1 a2 : Int) (w : World) (h : ¬ a0.size > 262144) (hz : stim_sized.f a1 a2 = some false) :
    Calls Tryd.prog 46 #[.string a0,.int .i64 a1,.int .i64 a2] w fun e w' => e = .returned (.tuple #[.pointer none,.agg #[.int .i64 0,.int .i64 1]]) ∧ Below w.heap.size w w':=by
  have hu40:=Tryd.underlying40
  have c2b0 : decide ((a0.size : Int) > 262144) = false:=decide_eq_false (by omega)
  rw [sized_false] at hz
  by_cases b4 : a2 ≤ 16384
  · have b4b : decide (a2 ≤ 16384) = true:=decide_eq_true b4
    go_enter Tryd.func46,Tryd.ntmps46
    go_wp2
    repeat (go_quiet (fail);try go_wp2)
    all_goals first
      | (exfalso;omega)
      | exact bodyPost_ret (results_tc rfl _ _ w.heap.size 40 #[.int .i64 0,.int .i64 1] (0,0) _ rfl (blk_new w _) Tryd.underlying40 rfl (by kernel_rfl)) rfl ⟨rfl,eA_ (Below.refl _ _) _⟩
  · have b4b : decide (a2 ≤ 16384) = false:=decide_eq_false b4
    go_enter Tryd.func46,Tryd.ntmps46
    go_wp2
    repeat (go_quiet (fail);try go_wp2)
    all_goals first
      | exact bodyPost_ret (results_tc rfl _ _ w.heap.size 40 #[.int .i64 0,.int .i64 1] (0,0) _ rfl (blk_new w _) Tryd.underlying40 rfl (by kernel_rfl)) rfl ⟨rfl,eA_ (Below.refl _ _) _⟩
      | (exfalso;simp_all;done)
      | (exfalso;omega)
set_option maxRecDepth 100000 in
theorem stim_begun_made (a0 : ByteArray) (a1 a2 : Int) (w : World) (h : ¬ a0.size > 262144) (hz : stim_sized.f a1 a2 = some true) :
    Calls Tryd.prog 46 #[.string a0,.int .i64 a1,.int .i64 a2] w fun e w' => ∃ g,e = .returned (.tuple #[.pointer (some ⟨g,0,none⟩),.agg #[.int .i64 0,.int .i64 0]]) ∧ IsS98 w w' g a0 0 a1 a2 ∧ Below w.heap.size w w':=by
  have hu40:=Tryd.underlying40
  have c2b0 : decide ((a0.size : Int) > 262144) = false:=decide_eq_false (by omega)
  rw [sized_true] at hz
  obtain ⟨b1,b2,b3,b4⟩:=hz
  have b4b : decide (a2 ≤ 16384) = true:=decide_eq_true b4
  go_enter Tryd.func46,Tryd.ntmps46
  go_wp2
  repeat (go_quiet (fail);try go_wp2)
  all_goals first
    | exact bodyPost_ret (results_tc rfl _ _ w.heap.size 40 #[.int .i64 0,.int .i64 0] (0,0) _ rfl (bA_ (blk_new w _) _) Tryd.underlying40 rfl (by kernel_rfl)) rfl ⟨w.heap.size + 1,rfl,⟨by have:=blk_new (w.alloc (.cells #[.int .i64 0,.int .i64 0] 40)) (.cells #[.string a0,.int .i64 0,.int .i64 a1,.int .i64 a2] 98);simpa using this,by omega⟩,eA_ (eA_ (Below.refl _ _) _) _⟩
    | (exfalso;simp_all;done)
    | (exfalso;omega)
    | trace_state
end Go.Proofs.YtojepjkpnponoaaDoor.Stim

