import Derived.Test.YtojepjkpnponoaaDoorFGV
import Derived.Lib.AppendIntMem
set_option linter.unusedVariables false
set_option linter.unusedSimpArgs false
namespace Go.Proofs.YtojepjkpnponoaaDoor.Stim
open Go.RowKit
def strconv_Itoa.f (a0 : Int) : Option ByteArray:=if -9223372036854775808 ≤ a0 ∧ a0 ≤ 9223372036854775807 then some ⟨(Lib.itoa a0).toArray⟩ else none
theorem strconv_Itoa.calls (a0 : Int) (r : ByteArray) (w : World) (hG : GV w) (h : strconv_Itoa.f a0 = some r) :
    Calls Tryd.prog 34 #[.int .i64 a0] w fun e w' => e = .returned (.string r) ∧ Below w.heap.size w w':=by
  unfold strconv_Itoa.f at h
  split at h
  · rename_i hs
    injection h with h
    subst h
    refine (Tryd.strconv_Itoa a0 hs.1 hs.2 w hG.pow).mono ?_
    rintro e w' ⟨rfl,k,os,rfl⟩
    exact ⟨rfl,Lib.below_grow _ w (Nat.le_refl _) k os⟩
  · cases h
end Go.Proofs.YtojepjkpnponoaaDoor.Stim

