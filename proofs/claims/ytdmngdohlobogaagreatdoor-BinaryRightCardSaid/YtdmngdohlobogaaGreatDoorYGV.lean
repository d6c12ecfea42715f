import Derived.Test.YtdmngdohlobogaaGreatDoorYShelf
import Derived.WalkSmall
import Derived.Lib.LaidTab
set_option linter.unusedVariables false
set_option linter.unusedSimpArgs false
namespace Go.Proofs.YtdmngdohlobogaaGreatDoor
open Go.RowKit Go.Lib
structure GV (w : World) : Prop where
 max : ∃ m, w.var? Tryz.prog "internal/bytealg.MaxLen" = some #[.int .i64 m]
 pow : Lib.TabIs Tryz.prog w "internal/strconv.uint64pow10" .u64 Lib.pow10Tab
 syn : ∃ tp p, w.var? Tryz.prog "strconv.ErrSyntax" = some #[.iface tp p]
 rng : ∃ tp p, w.var? Tryz.prog "strconv.ErrRange" = some #[.iface tp p]
theorem var_keep {P : Program} {w W : World} {n : String} {cs : Array Value} (h : Below w.heap.size w W) (hv : w.var? P n = some cs) : W.var? P n = some cs:=by
 unfold World.var? at hv ⊢
 cases hg : P.globalNamed n with
 |none => simp [hg] at hv
 |some g =>
  simp only [hg,Option.bind_some] at hv ⊢
  by_cases hl : g < w.heap.size
  ·rw [h.block g hl]
   exact hv
  ·rw [Array.getElem?_eq_none (by omega)] at hv
   simp at hv
theorem GV_below {w W : World} (h : GV w) (hb : Below w.heap.size w W) : GV W :=
 ⟨h.max.imp fun _ x => var_keep hb x,var_keep hb h.pow,h.syn.imp fun _ x => x.imp fun _ y => var_keep hb y,h.rng.imp fun _ x => x.imp fun _ y => var_keep hb y⟩
end Go.Proofs.YtdmngdohlobogaaGreatDoor

