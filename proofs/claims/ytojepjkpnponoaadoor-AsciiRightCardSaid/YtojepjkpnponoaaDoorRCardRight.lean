/-
  THE CARD OF AsciiRight: what is read of a text is right, with as many things of each kind as the header says, and the place of a fault is one of the text. Proved for every text that a caller can hold, with the listed library variables as the program's text lays them; no other condition.
-/
import Derived.Test.YtojepjkpnponoaaDoorRLawRight
set_option linter.unusedVariables false
set_option linter.unusedSimpArgs false
namespace Go.Proofs.YtojepjkpnponoaaDoor
open Go
set_option maxRecDepth 100000
theorem asciiRight_card_holds : Rows.AsciiRightCardSaid :=
  Claim7.holds_tied_plain_at .later [] [.data, .data, .data, .data, .sentinel, .sentinel, .pinned] true (true, "ceefe9fd1829a0d6bf9a22b60ea8dca0f72defbe5f88411bf7f9f633f2def695") true
    Right.over (fun _ h => by cases h) (by kernel_rfl) (fun _ h => by cases h) asciiRight_row_tie rfl ⟨rfl,rfl⟩ (by kernel_rfl) rfl
    (fun f fn hf hfn => by
      obtain rfl : f = 8 := Option.some.inj ((show Tryd.prog.funcNamed "trestle/trestlelaw04.AsciiRight" = some 8 by kernel_rfl).symm.trans hf) |>.symm
      obtain rfl : fn = Tryd.f8:=(Option.some.inj (Tryd.func8.symm.trans hfn)).symm
      exact ⟨by kernel_rfl,fun j t ht => by
        rw [Tryd.params8] at ht
        rcases j with _|j
        · obtain rfl : 9 = t:=by simpa using ht
          exact (show Tryd.prog.wantsStandIn 9 = false by kernel_rfl)
        · simp at ht⟩)
    (by kernel_rfl)
#print axioms asciiRight_card_holds
end Go.Proofs.YtojepjkpnponoaaDoor

