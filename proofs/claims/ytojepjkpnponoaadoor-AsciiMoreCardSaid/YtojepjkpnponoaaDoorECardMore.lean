/-
  THE CARD OF AsciiMore: a circuit's text with a comment more has the same latches, gates and properties, and that comment behind the others. Proved for every two texts that a caller can hold, with the listed library variables as the program's text lays them; no other condition.
-/
import Derived.Test.YtojepjkpnponoaaDoorELawMore
set_option linter.unusedVariables false
set_option linter.unusedSimpArgs false
namespace Go.Proofs.YtojepjkpnponoaaDoor
open Go
set_option maxRecDepth 100000
theorem asciiMore_card_holds : Rows.AsciiMoreCardSaid :=
  Claim7.holds_tied_plain_at .later [] [.data, .data, .data, .data, .sentinel, .sentinel, .pinned] true (true, "ceefe9fd1829a0d6bf9a22b60ea8dca0f72defbe5f88411bf7f9f633f2def695") true
    More.over (fun _ h => by cases h) (by kernel_rfl) (fun _ h => by cases h) asciiMore_row_tie rfl ⟨rfl,rfl⟩ (by kernel_rfl) rfl
    (fun f fn hf hfn => by
      obtain rfl : f = 10 := Option.some.inj ((show Tryd.prog.funcNamed "trestle/trestlelaw04.AsciiMore" = some 10 by kernel_rfl).symm.trans hf) |>.symm
      obtain rfl : fn = Tryd.f10:=(Option.some.inj (Tryd.func10.symm.trans hfn)).symm
      exact ⟨by kernel_rfl,fun j t ht => by
        rw [Tryd.params10] at ht
        rcases j with _|_|j
        · obtain rfl : 9 = t:=by simpa using ht
          exact (show Tryd.prog.wantsStandIn 9 = false by kernel_rfl)
        · obtain rfl : 9 = t:=by simpa using ht
          exact (show Tryd.prog.wantsStandIn 9 = false by kernel_rfl)
        · simp at ht⟩)
    (by kernel_rfl)
#print axioms asciiMore_card_holds
end Go.Proofs.YtojepjkpnponoaaDoor

