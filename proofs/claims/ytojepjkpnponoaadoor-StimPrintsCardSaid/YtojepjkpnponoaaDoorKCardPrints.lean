/-
  THE CARD OF StimPrints: stim.Print and trestleref12.Print print the same bytes. Proved for every Props, Rows and Size that a caller can hold, with the listed library variables as the program's text lays them; no other condition.
-/
import Derived.Test.YtojepjkpnponoaaDoorKLawPrints
set_option linter.unusedVariables false
set_option linter.unusedSimpArgs false
namespace Go.Proofs.YtojepjkpnponoaaDoor
open Go
set_option maxRecDepth 100000
theorem stimPrints_card_holds : Rows.StimPrintsCardSaid :=
  Claim7.holds_tied_plain_at .later [] [.data, .data, .data, .data, .sentinel, .sentinel, .pinned] true (true, "ceefe9fd1829a0d6bf9a22b60ea8dca0f72defbe5f88411bf7f9f633f2def695") true
    Prints.over (fun _ h => by cases h) (by kernel_rfl) (fun _ h => by cases h) stimPrints_row_tie rfl ⟨rfl,rfl⟩ (by kernel_rfl) rfl
    (fun f fn hf hfn => by
      obtain rfl : f = 3 := Option.some.inj ((show Tryd.prog.funcNamed "trestle/trestlelaw12.StimPrints" = some 3 by kernel_rfl).symm.trans hf) |>.symm
      obtain rfl : fn = Tryd.f3:=(Option.some.inj (Tryd.func3.symm.trans hfn)).symm
      exact ⟨by kernel_rfl,fun j t ht => by
        rw [Tryd.params3] at ht
        rcases j with _|_|j
        · obtain rfl : 28 = t:=by simpa using ht
          exact (show Tryd.prog.wantsStandIn 28 = false by kernel_rfl)
        · obtain rfl : 30 = t:=by simpa using ht
          exact (show Tryd.prog.wantsStandIn 30 = false by kernel_rfl)
        · simp at ht⟩)
    (by kernel_rfl)
#print axioms stimPrints_card_holds
end Go.Proofs.YtojepjkpnponoaaDoor

