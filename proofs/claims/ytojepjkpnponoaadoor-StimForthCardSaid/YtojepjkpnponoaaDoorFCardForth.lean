/-
  THE CARD OF StimForth: what stim.Read reads may be, is written as the text by stim.Print if that has no x, and read of two texts, one behind the other, are both. Proved for every two texts and Size that a caller can hold, with the listed library variables as the program's text lays them; no other condition.
-/
import Derived.Test.YtojepjkpnponoaaDoorFLawForth
set_option linter.unusedVariables false
set_option linter.unusedSimpArgs false
namespace Go.Proofs.YtojepjkpnponoaaDoor
open Go
set_option maxRecDepth 100000
theorem stimForth_card_holds : Rows.StimForthCardSaid :=
  Claim7.holds_tied_plain_at .later [] [.data, .data, .data, .data, .sentinel, .sentinel, .pinned] true (true, "ceefe9fd1829a0d6bf9a22b60ea8dca0f72defbe5f88411bf7f9f633f2def695") true
    Forth.over (fun _ h => by cases h) (by kernel_rfl) (fun _ h => by cases h) stimForth_row_tie rfl ⟨rfl,rfl⟩ (by kernel_rfl) rfl
    (fun f fn hf hfn => by
      obtain rfl : f = 5 := Option.some.inj ((show Tryd.prog.funcNamed "trestle/trestlelaw12.StimForth" = some 5 by kernel_rfl).symm.trans hf) |>.symm
      obtain rfl : fn = Tryd.f5:=(Option.some.inj (Tryd.func5.symm.trans hfn)).symm
      exact ⟨by kernel_rfl,fun j t ht => by
        rw [Tryd.params5] at ht
        rcases j with _|_|_|j
        · obtain rfl : 9 = t:=by simpa using ht
          exact (show Tryd.prog.wantsStandIn 9 = false by kernel_rfl)
        · obtain rfl : 9 = t:=by simpa using ht
          exact (show Tryd.prog.wantsStandIn 9 = false by kernel_rfl)
        · obtain rfl : 30 = t:=by simpa using ht
          exact (show Tryd.prog.wantsStandIn 30 = false by kernel_rfl)
        · simp at ht⟩)
    (by kernel_rfl)
#print axioms stimForth_card_holds
end Go.Proofs.YtojepjkpnponoaaDoor

