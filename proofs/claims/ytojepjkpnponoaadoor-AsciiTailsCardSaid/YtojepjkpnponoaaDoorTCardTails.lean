/-
  THE CARD OF AsciiTails: the end of any text, from any place on, is what the document says: the same symbols, the same comments, the same fault. Proved for every text and every place that a caller can hold, with the listed library variables as the program's text lays them; no other condition.
-/
import Derived.Test.YtojepjkpnponoaaDoorTLawTails
set_option linter.unusedVariables false
set_option linter.unusedSimpArgs false
namespace Go.Proofs.YtojepjkpnponoaaDoor
open Go
set_option maxRecDepth 100000
theorem asciiTails_card_holds : Rows.AsciiTailsCardSaid :=
  Claim7.holds_tied_plain_at .later [] [.data, .data, .data, .data, .sentinel, .sentinel, .pinned] true (true, "ceefe9fd1829a0d6bf9a22b60ea8dca0f72defbe5f88411bf7f9f633f2def695") true
    Tails.over (fun _ h => by cases h) (by kernel_rfl) (fun _ h => by cases h) asciiTails_row_tie rfl ⟨rfl,rfl⟩ (by kernel_rfl) rfl
    (fun f fn hf hfn => by
      obtain rfl : f = 7 := Option.some.inj ((show Tryd.prog.funcNamed "trestle/trestlelaw04.AsciiTails" = some 7 by kernel_rfl).symm.trans hf) |>.symm
      obtain rfl : fn = Tryd.f7:=(Option.some.inj (Tryd.func7.symm.trans hfn)).symm
      exact ⟨by kernel_rfl,fun j t ht => by
        rw [Tryd.params7] at ht
        rcases j with _|_|j
        · obtain rfl : 9 = t:=by simpa using ht
          exact (show Tryd.prog.wantsStandIn 9 = false by kernel_rfl)
        · obtain rfl : 3 = t:=by simpa using ht
          exact (show Tryd.prog.wantsStandIn 3 = false by kernel_rfl)
        · simp at ht⟩)
    (by kernel_rfl)
#print axioms asciiTails_card_holds
end Go.Proofs.YtojepjkpnponoaaDoor

