import Derived.Test.YtojepjkpnponoaaDoorFStim0
import Derived.Test.YtojepjkpnponoaaDoorFGItoa
import Derived.Test.YtojepjkpnponoaaDoorFPu31
set_option linter.unusedVariables false
set_option linter.unusedSimpArgs false
namespace Go.Proofs.YtojepjkpnponoaaDoor.Stim
open Go.RowKit Go.Proofs.YtojepjkpnponoaaDoorW.PrintWords Go.Proofs.YtojepjkpnponoaaDoorW.PrintLast Go.Proofs.YtojepjkpnponoaaDoorW.PrintMore
def numOf (l : List UInt8) : Int × Bool :=
  match Lib.parseUintB 31 l with
  | .ok u => (u,(Lib.itoa u == l) && decide (u < 16384))
  | .range => (2147483647,false)
  | _ => (0,false)
def stim_number.f (a0 : ByteArray) : Option (Int × Bool):=if a0.size ≤ 281474976710656 then some (numOf a0.data.toList) else none
set_option maxHeartbeats 1000000 in
theorem stim_number.calls (a0 : ByteArray) (r1 : Int) (r2 : Bool) (w : World) (hG : GV w) (h : stim_number.f a0 = some (r1,r2)) :
    Calls Tryd.prog 94 #[.string a0] w fun e w' => e = .returned (.tuple #[.int .i64 r1,.bool r2]) ∧ Below w.heap.size w w':=by
  unfold stim_number.f at h
  split at h
  · rename_i hs
    injection h with h
    unfold numOf at h
    cases hp : Lib.parseUintB 31 a0.data.toList with
    | ok u =>
      rw [hp] at h
      injection h with h1 h2
      subst h1 h2
      have hu:=Lib.parseUintB_le hp
      have hc : Calls Tryd.prog 99 #[.string a0,.int .i64 10,.int .i64 31] w fun e w' => e = .returned (.tuple #[.int .u64 u,.nilIface]) ∧ Below w.heap.size w w' :=
        (AnyP31.ParseUint_10_at31_ok Tryd.laysPu14 a0 (by omega) u hp w).mono fun e w' ⟨he,hw⟩ => ⟨he,by rcases hw with rfl|rfl;exact Below.refl _ _;exact Lib.bytesWorld_below _ _ _⟩
      have HC:=Lib.hid hc
      have HU : (u : Int) ≤ 2147483647:=by omega
      have HG:=Lib.hid hG
      have HR : Hid (∀ b : Bool,(b = (Lib.itoa u == a0.toList)) → ((Lib.itoa u == a0.data.toList) && decide (u < 16384)) = (b && decide ((u : Int) < 16384))):=Lib.hid (by
        intro b hb
        have hd : decide (u < 16384) = decide ((u : Int) < 16384):=decide_eq_decide.mpr (by omega)
        rw [hb,Lib.toList_data,hd])
      clear hc hp hG hu
      go_enter Tryd.func94,Tryd.ntmps94
      go_wp2_with fail
      refine HC.out.mono ?_
      rintro e w1 ⟨rfl,hb⟩
      have hi:=strconv_Itoa.calls u _ w1 (GV_below HG.out hb) (by unfold strconv_Itoa.f;rw [if_pos ⟨by omega,by omega⟩])
      have HI:=Lib.hid hi
      have HB:=Lib.hid hb
      clear hi hb
      go_wp2_with fail
      refine HI.out.mono ?_
      rintro e w2 ⟨rfl,hb2⟩
      have HB2:=Lib.hid (HB.out.trans (hb2.mono HB.out.size))
      clear hb2
      by_cases hq : Lib.itoa u = a0.toList
      · have hq1 : (Lib.itoa u == a0.toList) = true:=by simpa using hq
        have HQ:=Lib.hid hq1
        clear hq
        go_wp2_with fail
        go_ret2
        refine ⟨?_,HB2.out⟩
        rw [HR.out true HQ.out.symm]
        simp
      · have hq1 : (Lib.itoa u == a0.toList) = false:=by simpa using hq
        have HQ:=Lib.hid hq1
        clear hq
        go_wp2_with fail
        go_ret2
        refine ⟨?_,HB2.out⟩
        rw [HR.out false HQ.out.symm]
        simp
    | range =>
      rw [hp] at h
      injection h with h1 h2
      subst h1 h2
      obtain ⟨tp,p,hv⟩:=hG.rng
      have hc : Calls Tryd.prog 99 #[.string a0,.int .i64 10,.int .i64 31] w fun e w' => ∃ N,e = .returned (.tuple #[.int .u64 2147483647,.iface 202 (.pointer (some ⟨N,0,none⟩))]) ∧ Below w.heap.size w w' :=
        (AnyP31.ParseUint_10_at31_range_var Tryd.laysPu14 a0 hs hp tp p w hv).mono fun e w' ⟨N,he,_,_,hw⟩ => ⟨N,he,hw⟩
      have HC:=Lib.hid hc
      clear hc hp hv hG
      go_enter Tryd.func94,Tryd.ntmps94
      go_wp2_with fail
      refine HC.out.mono ?_
      rintro e w1 ⟨N,rfl,hb⟩
      have HB:=Lib.hid hb
      clear hb
      go_wp2_with fail
      go_ret2
      exact ⟨rfl,HB.out⟩
    | _ =>
      rw [hp] at h
      injection h with h1 h2
      subst h1 h2
      obtain ⟨tp,p,hv⟩:=hG.syn
      have hc : Calls Tryd.prog 99 #[.string a0,.int .i64 10,.int .i64 31] w fun e w' => ∃ N,e = .returned (.tuple #[.int .u64 0,.iface 202 (.pointer (some ⟨N,0,none⟩))]) ∧ Below w.heap.size w w' :=
        (AnyP31.ParseUint_10_at31_syntax_var Tryd.laysPu14 a0 hs hp tp p w hv).mono fun e w' ⟨N,he,_,_,hw⟩ => ⟨N,he,hw⟩
      have HC:=Lib.hid hc
      clear hc hp hv hG
      go_enter Tryd.func94,Tryd.ntmps94
      go_wp2_with fail
      refine HC.out.mono ?_
      rintro e w1 ⟨N,rfl,hb⟩
      have HB:=Lib.hid hb
      clear hb
      go_wp2_with fail
      go_ret2
      exact ⟨rfl,HB.out⟩
  · cases h
end Go.Proofs.YtojepjkpnponoaaDoor.Stim

