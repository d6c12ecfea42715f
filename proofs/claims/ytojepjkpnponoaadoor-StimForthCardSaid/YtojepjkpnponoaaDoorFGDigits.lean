import Derived.Test.YtojepjkpnponoaaDoorFStim0
import Derived.Test.YtojepjkpnponoaaDoorFMk
set_option linter.unusedSimpArgs false
namespace Go.Proofs.YtojepjkpnponoaaDoor.Stim
open Go Go.RowKit Go.Proofs.YtojepjkpnponoaaDoorW.PrintWords Go.Proofs.YtojepjkpnponoaaDoorW.PrintLast Go.Proofs.YtojepjkpnponoaaDoorW.PrintMore
set_option linter.unusedVariables false
def digitOf (b : Bool) : Int:=if b then 49 else 48
def stim_digits.f (l0 : List Bool) : Option ByteArray:=if l0.length < 4294967296 then some (strOfNums (l0.map digitOf ++ [10])) else none
set_option maxHeartbeats 4000000 in
set_option maxRecDepth 100000 in
theorem stim_digits.calls (A0 : Option Addr) (c0 : Nat) (l0 : List Bool) (r : ByteArray) (w : World) (hr0 : Kd.C Kd.bool w A0 l0.length l0) (hc0 : l0.length ≤ c0) (h : stim_digits.f l0 = some r) :
    Calls Tryd.prog 36 #[.slice A0 l0.length c0] w fun e w' => e = .returned (.string r) ∧ Below w.heap.size w w':=by
  unfold stim_digits.f at h
  split at h
  · rename_i hs
    injection h with h
    subst h
    have HR0:=A0_.mk hr0
    have HS:=A0_.mk hs
    have hw : IntKind.i64.wrap ((l0.length : Int) + 1) = ((l0.length + 1 : Nat) : Int):=by rw [IntKind.wrap_i64];simp;omega
    clear hr0 hc0 hs
    go_enter Tryd.func36,Tryd.ntmps36
    go_upto_region 2 with (first|((with_reducible refine gate_dst (N:=9) rfl ?_);refine mkcap (Kd.int .u8) (w0:=w) w.heap.size 5 rfl 70 _ _ rfl (l0.length + 1) rfl (by first|exact congrArg (Value.int .i64) hw|(simp [Act.eval,hw];done)) Tryd.underlying70 (.int .u8 0) 1 info5 (by have:=HS.out;omega) (by have:=HS.out;simp only [maxLen];omega) (ok:=fun _ => True) trivial (Below.refl _ _) (Nat.le_refl _) ?_;intro v1 w1 hr hb hb1))
    repeat (go_quiet (fail);try go_wp2)
    go_wp2
    repeat (go_quiet (fail);try go_wp2)
    (try simp only [Act.put,List.setIfInBounds_toArray,List.set_cons_zero,List.set_cons_succ])
    go_loopg [3,12] (l0.length + 1) (fun kq v3 v12 w' => ∃ n : Nat,v12 = .int .i64 n ∧ A0_ (n + kq = l0.length + 1) ∧ A0_ (n ≤ l0.length) ∧ A0_ (Kd.R (Kd.int .u8) 5 w' w.heap.size (fun _ => True) v3 ((l0.take n).map digitOf)) ∧ A0_ (Below w.heap.size w w'))
    case atStart => exact ⟨0,rfl,⟨by omega⟩,⟨by omega⟩,⟨hr⟩,⟨hb⟩⟩
    case round =>
      clear hr hb hb1
      obtain ⟨n,rfl,HK,HN,HR,HB⟩:=hrel
      cases gk with
      | zero =>
        have h1:=HK.out
        have h2:=HN.out
        omega
      | succ k1 =>
        by_cases c4 : n < l0.length
        · have c4b0 : decide ((n : Int) < (l0.length : Int)) = true:=decide_eq_true (by omega)
          have p238 : 0 ≤ (n : Int):=by omega
          have q238 : (n : Int) < (l0.length : Int):=by omega
          obtain ⟨ad238,e238,hx238_0⟩:=Kd.at_bool HR0.out (n : Int) p238 q238
          cases e238
          simp only [Int.toNat_natCast] at hx238_0
          replace hx238_0:=(HB.out.cell (World.block_lt_of_cell? w _ hx238_0)).trans hx238_0
          replace p238:=eq_true p238
          replace q238:=eq_true q238
          have hrd : rdOf false l0 (n : Int) = l0[n]:=by simp [rdOf,c4]
          have htake : (l0.take (n + 1)).map digitOf = (l0.take n).map digitOf ++ [digitOf (rdOf false l0 (n : Int))]:=by rw [hrd,List.take_succ_eq_append_getElem c4,List.map_append];rfl
          have HT:=A0_.mk htake
          have hl : ((l0.take n).map digitOf).length < 4294967296:=by have:=HS.out;simp;omega
          have HL:=A0_.mk hl
          clear hrd htake hl
          generalize rdOf false l0 (n : Int) = b at *
          have hsz:=HS.out
          cases b with
          | true =>
            go_wp2_with (first|(at_builtin;refine Kd.R_append (Kd.int .u8) (w0:=w) w.heap.size rfl (.tmp 17) (.tmp 18) 70 5 (.int .u8 0) 1 rfl Tryd.underlying70 info5 rfl (by decide) (by decide) u3 ((l0.take n).map digitOf) 49 [.int .u8 49] (fun _ => True) (fun _ => False) rfl rfl rfl (fun _ h => h.elim) (fun _ _ => trivial) HR.out HB.out (below_size HB.out) (by have:=HL.out;omega) ?_;intro v3 w3 hr3 hb3 hg3 hat3)|go_in)
            have HR3 : A0_ (Kd.R (Kd.int .u8) 5 w3 w.heap.size (fun _ => True) v3 ((l0.take (n + 1)).map digitOf)):=⟨by rw [HT.out];exact hr3⟩
            have HB3:=A0_.mk hb3
            clear hr3 hb3 hg3 hat3
            go_roundg k1
            case measure => omega
            case rel => exact ⟨n + 1,by go_num,⟨by have:=HK.out;omega⟩,⟨by omega⟩,HR3,HB3⟩
          | false =>
            go_wp2_with (first|(at_builtin;refine Kd.R_append (Kd.int .u8) (w0:=w) w.heap.size rfl (.tmp 20) (.tmp 21) 70 5 (.int .u8 0) 1 rfl Tryd.underlying70 info5 rfl (by decide) (by decide) u3 ((l0.take n).map digitOf) 48 [.int .u8 48] (fun _ => True) (fun _ => False) rfl rfl rfl (fun _ h => h.elim) (fun _ _ => trivial) HR.out HB.out (below_size HB.out) (by have:=HL.out;omega) ?_;intro v3 w3 hr3 hb3 hg3 hat3)|go_in)
            have HR3 : A0_ (Kd.R (Kd.int .u8) 5 w3 w.heap.size (fun _ => True) v3 ((l0.take (n + 1)).map digitOf)):=⟨by rw [HT.out];exact hr3⟩
            have HB3:=A0_.mk hb3
            clear hr3 hb3 hg3 hat3
            go_roundg k1
            case measure => omega
            case rel => exact ⟨n + 1,by go_num,⟨by have:=HK.out;omega⟩,⟨by omega⟩,HR3,HB3⟩
        · have c4b0 : decide ((n : Int) < (l0.length : Int)) = false:=decide_eq_false (by omega)
          have hn : n = l0.length:=by have:=HN.out;omega
          have hR:=HR.out
          rw [hn,List.take_length] at hR
          have HR':=A0_.mk hR
          clear hR
          have hl3 : (l0.map digitOf ++ [(10 : Int)]).length = l0.length + 1:=by simp
          go_wp2_with (first|(at_builtin;refine Kd.R_append (Kd.int .u8) (w0:=w) w.heap.size rfl (.tmp 24) (.tmp 25) 70 5 (.int .u8 0) 1 rfl Tryd.underlying70 info5 rfl (by decide) (by decide) u3 (l0.map digitOf) 10 [.int .u8 10] (fun _ => True) (fun _ => False) rfl rfl rfl (fun _ h => h.elim) (fun _ _ => trivial) HR'.out HB.out (below_size HB.out) (by have:=HS.out;simp;omega) ?_;intro v3 w3 hr3 hb3 hg3 hat3;obtain ⟨A3,n3,rfl⟩:=Kd.R_slice hr3;have hcv:=Kd.C_string (P:=Tryd.prog) (c:=n3) Tryd.underlying70 Tryd.underlying5 Tryd.underlying9 (Kd.R_reads' hr3).2.2;rw [hl3] at hcv)|go_in)
          repeat (go_quiet (fail);try go_wp2)
          go_ret
          exact ⟨rfl,hb3⟩
  · cases h
end Go.Proofs.YtojepjkpnponoaaDoor.Stim

