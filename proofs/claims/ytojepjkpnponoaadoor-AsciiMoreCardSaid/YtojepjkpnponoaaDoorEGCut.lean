import Derived.Test.YtojepjkpnponoaaDoorEGV
set_option linter.unusedVariables false
set_option linter.unusedSimpArgs false
namespace Go.Proofs.YtojepjkpnponoaaDoor.Stim
open Go.RowKit
def strings_Cut.f (a0 : ByteArray) (a1 : ByteArray) : Option (ByteArray × ByteArray × Bool) :=
  if a0.size < 4294967281 then some (⟨(Lib.cut a0.data.toList a1.data.toList).1.toArray⟩,⟨(Lib.cut a0.data.toList a1.data.toList).2.1.toArray⟩,(Lib.cut a0.data.toList a1.data.toList).2.2) else none
theorem below_drewN0 (w : World) (n : Nat) : Below w.heap.size w (w.drewN n):=⟨rfl,rfl,rfl,Nat.le_refl _,fun _ _ => rfl⟩
theorem strings_Cut.calls (a0 : ByteArray) (a1 : ByteArray) (r1 : ByteArray) (r2 : ByteArray) (r3 : Bool) (w : World) (hG : GV w) (h : strings_Cut.f a0 a1 = some (r1,r2,r3)) :
    Calls Tryd.prog 49 #[.string a0,.string a1] w fun e w' => e = .returned (.tuple #[.string r1,.string r2,.bool r3]) ∧ Below w.heap.size w w':=by
  unfold strings_Cut.f at h
  split at h
  · rename_i hs
    injection h with h
    injection h with h1 h
    injection h with h2 h3
    subst h1 h2 h3
    obtain ⟨m,hm⟩:=hG.max
    have hc : w.cell? ⟨0,0,none⟩ = some (.int .i64 m):=by
      have:=World.var?_cell (P:=Tryd.prog) (g:=0) (by kernel_rfl) hm 0
      simpa using this
    refine (Tryd.strings_Cut a0 a1 m w hs hc).mono ?_
    rintro e w' ⟨rfl,n,rfl⟩
    exact ⟨rfl,below_drewN0 w n⟩
  · cases h
end Go.Proofs.YtojepjkpnponoaaDoor.Stim

