import Derived.Test.YtojepjkpnponoaaDoorFStim0
import Derived.Test.YtojepjkpnponoaaDoorFGV
set_option linter.unusedVariables false
set_option linter.unusedSimpArgs false
namespace Go.Proofs.YtojepjkpnponoaaDoor.Stim
open Go.RowKit Go.Proofs.YtojepjkpnponoaaDoorW.PrintWords Go.Proofs.YtojepjkpnponoaaDoorW.PrintLast Go.Proofs.YtojepjkpnponoaaDoorW.PrintMore
def lineAt (s : ByteArray) (a : Nat) : List UInt8 × List UInt8 × Bool:=Lib.cut (s.extract a s.size).data.toList [10]
def stim_reader_line.f (s0_0 : ByteArray) (s0_1 : Int) (s0_2 : Int) (s0_3 : Int) : Option (ByteArray × Bool × ByteArray × Int × Int × Int) :=
  if 0 ≤ s0_1 then if s0_1 ≤ (s0_0.size : Int) then if s0_0.size < 4294967281 then
    some (⟨(lineAt s0_0 s0_1.toNat).1.toArray⟩,(lineAt s0_0 s0_1.toNat).2.2,s0_0,s0_1,s0_2,s0_3)
  else none else none else none
set_option maxHeartbeats 1000000 in
theorem stim_reader_line.calls (g : Nat) (s0_0 : ByteArray) (s0_1 : Int) (s0_2 : Int) (s0_3 : Int) (r1 : ByteArray) (r2 : Bool) (r3 : ByteArray) (r4 : Int) (r5 : Int) (r6 : Int) (w0 w : World) (hG : GV w0) (hI : IsS98 w0 w g s0_0 s0_1 s0_2 s0_3) (hB : Below w0.heap.size w0 w) (h : stim_reader_line.f s0_0 s0_1 s0_2 s0_3 = some (r1,r2,r3,r4,r5,r6)) :
    Calls Tryd.prog 73 #[.pointer (some ⟨g,0,none⟩)] w fun e w' => e = .returned (.tuple #[.string r1,.bool r2]) ∧ IsS98 w0 w' g r3 r4 r5 r6 ∧ Below w0.heap.size w0 w' ∧ KeepBut w w' g none:=by
  unfold stim_reader_line.f at h
  by_cases h0 : 0 ≤ s0_1
  · by_cases h1 : s0_1 ≤ (s0_0.size : Int)
    · by_cases h2 : s0_0.size < 4294967281
      · rw [if_pos h0,if_pos h1,if_pos h2] at h
        simp only [Option.some.injEq,Prod.mk.injEq] at h
        obtain ⟨rfl,rfl,rfl,rfl,rfl,rfl⟩:=h
        obtain ⟨n,rfl⟩:=Int.eq_ofNat_of_zero_le h0
        have h1n : n ≤ s0_0.size:=by omega
        have HI:=Lib.hid hI
        have HB:=Lib.hid hB
        obtain ⟨HG,hge⟩:=hI
        have hc0:=cellS98_0 HG
        have hc1:=cellS98_1 HG
        have hG1:=GV_below hG hB
        obtain ⟨m,hm⟩:=hG1.max
        have hcm : w.cell? ⟨0,0,none⟩ = some (.int .i64 m):=by
          have:=World.var?_cell (P:=Tryd.prog) (g:=0) (by kernel_rfl) hm 0
          simpa using this
        have hcut : ∀ k,Calls Tryd.prog 49 #[.string (s0_0.extract n s0_0.size),.string ⟨#[10]⟩] (w.drewN k) fun e w'' => e = .returned (.tuple #[.string ⟨(lineAt s0_0 n).1.toArray⟩,.string ⟨(lineAt s0_0 n).2.1.toArray⟩,.bool (lineAt s0_0 n).2.2]) ∧ ∃ m,w'' = w.drewN m:=fun k =>
          Calls.quiet_of (Tryd.strings_Cut (s0_0.extract n s0_0.size) ⟨#[10]⟩ m (w.drewN k) (by simp;omega) hcm)
        have HC:=Lib.hid hcut
        clear hcut hcm hm hG1 hG HG hge h0 hB
        go_enter Tryd.func73,Tryd.ntmps73
        go_wp2
        go_quiet ((go_at_call 49;exact HC.out _))
        go_wp2
        go_ret2
        exact ⟨rfl,IsS98.drewN HI.out _,eN_ HB.out _,⟨Nat.le_refl _,fun _ _ _ _ => rfl⟩⟩
      · rw [if_pos h0,if_pos h1,if_neg h2] at h;cases h
    · rw [if_pos h0,if_neg h1] at h;cases h
  · rw [if_neg h0] at h;cases h
end Go.Proofs.YtojepjkpnponoaaDoor.Stim

