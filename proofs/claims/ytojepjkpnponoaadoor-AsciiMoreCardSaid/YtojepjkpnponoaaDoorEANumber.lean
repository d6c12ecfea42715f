import Derived.Test.YtojepjkpnponoaaDoorEAsc3
import Derived.Test.YtojepjkpnponoaaDoorEGV
import Derived.Test.YtojepjkpnponoaaDoorEPu31
set_option linter.unusedSimpArgs false
namespace Go.Proofs.YtojepjkpnponoaaDoor.Asc
open Go Go.RowKit Go.Proofs.YtojepjkpnponoaaDoorW.PrintWords Go.Proofs.YtojepjkpnponoaaDoorW.PrintLast Go.Proofs.YtojepjkpnponoaaDoorW.PrintMore
set_option linter.unusedVariables false
def numA (s : ByteArray) : Int × Bool :=
  match Lib.parseUintB 31 s.data.toList with
  | .ok u => if bt s 0 = 43 ∨ (1 < s.size ∧ bt s 0 = 48) then (0,false) else ((u : Int),true)
  | _ => (0,false)
set_option maxHeartbeats 1000000 in
theorem number_calls (a0 : ByteArray) (w : World) (hG : GV w) (hs : a0.size ≤ 281474976710656) :
    Calls Tryd.prog 79 #[.string a0] w fun e w' => e = .returned (.tuple #[.int .i64 (numA a0).1,.bool (numA a0).2]) ∧ Below w.heap.size w w':=by
  unfold numA
  cases hp : Lib.parseUintB 31 a0.data.toList with
  | ok u =>
    dsimp only
    have hu:=Lib.parseUintB_le hp
    have hne : 0 < a0.size:=by
      rcases Nat.eq_zero_or_pos a0.size with h0|h0
      · have h1 : a0.data.toList = []:=List.eq_nil_of_length_eq_zero (by rw [data_length];exact h0)
        rw [h1] at hp
        cases hp
      · exact h0
    have hc : Calls Tryd.prog 99 #[.string a0,.int .i64 10,.int .i64 31] w fun e w' => e = .returned (.tuple #[.int .u64 u,.nilIface]) ∧ Below w.heap.size w w' :=
      (AnyP31.ParseUint_10_at31_ok Tryd.laysPu14 a0 (by omega) u hp w).mono fun e w' ⟨he,hw⟩ => ⟨he,by rcases hw with rfl|rfl;exact Below.refl _ _;exact Lib.bytesWorld_below _ _ _⟩
    have HC:=Lib.hid hc
    have HU : (u : Int) ≤ 2147483647:=by omega
    obtain ⟨R,hR⟩ : ∃ R,(if bt a0 0 = 43 ∨ (1 < a0.size ∧ bt a0 0 = 48) then ((0 : Int),false) else ((u : Int),true)) = R:=⟨_,rfl⟩
    rw [hR]
    have hbt : bt a0 0 = ((a0[0]'hne).toNat : Int):=by simp [bt,hne]
    rw [hbt] at hR
    have HR:=Lib.hid hR
    clear hc hp hG hu hR hbt
    go_enter Tryd.func79,Tryd.ntmps79
    go_wp2_with fail
    refine HC.out.mono ?_
    rintro e w1 ⟨rfl,hb⟩
    have HB:=Lib.hid hb
    clear hb
    generalize hx : ((a0[0]'hne).toNat : Int) = x at HR
    by_cases c1 : x = 43
    · have c1b : (((a0[0]'hne).toNat : Int) == 43) = true:=by rw [hx,c1];rfl
      have hr:=HR.out
      rw [if_pos (.inl c1)] at hr
      subst hr
      clear HR c1 hx
      go_wp2_with fail
      all_goals (try (go_ret2;exact ⟨rfl,HB.out⟩))
    · have c1b : (((a0[0]'hne).toNat : Int) == 43) = false:=by rw [hx];exact beq_eq_false_iff_ne.mpr c1
      by_cases c2 : 1 < a0.size
      · have c2b : decide ((1 : Int) < (a0.size : Int)) = true:=decide_eq_true (by omega)
        by_cases c3 : x = 48
        · have c3b : (((a0[0]'hne).toNat : Int) == 48) = true:=by rw [hx,c3];rfl
          have hr:=HR.out
          rw [if_pos (.inr ⟨c2,c3⟩)] at hr
          subst hr
          clear HR c1 c3 hx
          go_wp2_with fail
          all_goals (try (go_ret2;exact ⟨rfl,HB.out⟩))
        · have c3b : (((a0[0]'hne).toNat : Int) == 48) = false:=by rw [hx];exact beq_eq_false_iff_ne.mpr c3
          have hr:=HR.out
          rw [if_neg (fun h => h.elim c1 (fun h => c3 h.2))] at hr
          subst hr
          have hw : IntKind.i64.wrap (u : Int) = (u : Int):=by rw [IntKind.wrap_i64];omega
          clear HR c1 c3 hx
          go_wp2_with fail
          all_goals (try (go_ret2;exact ⟨rfl,HB.out⟩))
      · have c2b : decide ((1 : Int) < (a0.size : Int)) = false:=decide_eq_false (by omega)
        have c2n : (a0.size : Int) ≤ 1:=by omega
        have hr:=HR.out
        rw [if_neg (fun h => h.elim c1 (fun h => c2 h.1))] at hr
        subst hr
        have hw : IntKind.i64.wrap (u : Int) = (u : Int):=by rw [IntKind.wrap_i64];omega
        clear HR c1 hx
        go_wp2_with fail
        all_goals (try (go_ret2;exact ⟨rfl,HB.out⟩))
  | range =>
    dsimp only
    obtain ⟨tp,p,hv⟩:=hG.rng
    have hc : Calls Tryd.prog 99 #[.string a0,.int .i64 10,.int .i64 31] w fun e w' => ∃ N,e = .returned (.tuple #[.int .u64 2147483647,.iface 202 (.pointer (some ⟨N,0,none⟩))]) ∧ Below w.heap.size w w' :=
      (AnyP31.ParseUint_10_at31_range_var Tryd.laysPu14 a0 hs hp tp p w hv).mono fun e w' ⟨N,he,_,_,hw⟩ => ⟨N,he,hw⟩
    have HC:=Lib.hid hc
    clear hc hp hv hG
    go_enter Tryd.func79,Tryd.ntmps79
    go_wp2_with fail
    refine HC.out.mono ?_
    rintro e w1 ⟨N,rfl,hb⟩
    have HB:=Lib.hid hb
    clear hb
    go_wp2_with fail
    go_ret2
    exact ⟨rfl,HB.out⟩
  | _ =>
    dsimp only
    obtain ⟨tp,p,hv⟩:=hG.syn
    have hc : Calls Tryd.prog 99 #[.string a0,.int .i64 10,.int .i64 31] w fun e w' => ∃ N,e = .returned (.tuple #[.int .u64 0,.iface 202 (.pointer (some ⟨N,0,none⟩))]) ∧ Below w.heap.size w w' :=
      (AnyP31.ParseUint_10_at31_syntax_var Tryd.laysPu14 a0 hs hp tp p w hv).mono fun e w' ⟨N,he,_,_,hw⟩ => ⟨N,he,hw⟩
    have HC:=Lib.hid hc
    clear hc hp hv hG
    go_enter Tryd.func79,Tryd.ntmps79
    go_wp2_with fail
    refine HC.out.mono ?_
    rintro e w1 ⟨N,rfl,hb⟩
    have HB:=Lib.hid hb
    clear hb
    go_wp2_with fail
    go_ret2
    exact ⟨rfl,HB.out⟩
end Go.Proofs.YtojepjkpnponoaaDoor.Asc

