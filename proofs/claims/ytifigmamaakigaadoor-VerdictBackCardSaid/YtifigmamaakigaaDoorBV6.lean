import Derived.Test.YtifigmamaakigaaDoorBV5
import Derived.Test.YtifigmamaakigaaDoorBPu31
import Derived.WalkSmall
import Derived.Lib.LaidTab
import Derived.Lib.AppendIntMem
namespace Go.Proofs.YtifigmamaakigaaDoor.V
open Go Go.RowKit Go.Lib Go.Proofs.YtifigmamaakigaaDoorW.PrintWords Go.Proofs.YtifigmamaakigaaDoorW.PrintLast Go.Proofs.YtifigmamaakigaaDoorW.PrintMore
set_option linter.unusedVariables false
set_option linter.unusedSimpArgs false
structure GV (w : World) : Prop where
  kv : KV w
  max : ∃ m, w.var? Tryd.prog "internal/bytealg.MaxLen" = some #[.int .i64 m]
  pow : Lib.TabIs Tryd.prog w "internal/strconv.uint64pow10" .u64 Lib.pow10Tab
  syn : ∃ tp p, w.var? Tryd.prog "strconv.ErrSyntax" = some #[.iface tp p]
  rng : ∃ tp p, w.var? Tryd.prog "strconv.ErrRange" = some #[.iface tp p]
theorem var_keep {P : Program} {w W : World} {n : String} {cs : Array Value} (h : Below w.heap.size w W) (hv : w.var? P n = some cs) : W.var? P n = some cs:=by
  unfold World.var? at hv ⊢
  cases hg : P.globalNamed n with
  | none => simp [hg] at hv
  | some g =>
    simp only [hg,Option.bind_some] at hv ⊢
    by_cases hl : g < w.heap.size
    · rw [h.block g hl]
      exact hv
    · rw [Array.getElem?_eq_none (by omega)] at hv
      simp at hv
theorem GV.below {w W : World} (h : GV w) (hb : Below w.heap.size w W) : GV W :=
  ⟨h.kv.below hb,h.max.imp fun _ x => var_keep hb x,var_keep hb h.pow,h.syn.imp fun _ x => x.imp fun _ y => var_keep hb y,h.rng.imp fun _ x => x.imp fun _ y => var_keep hb y⟩
theorem below_drewN0 (w : World) (n : Nat) : Below w.heap.size w (w.drewN n):=⟨rfl,rfl,rfl,Nat.le_refl _,fun _ _ => rfl⟩
theorem max_cell {w : World} (hG : GV w) : ∃ m,w.cell? ⟨1,0,none⟩ = some (.int .i64 m):=by
  obtain ⟨m,hm⟩:=hG.max
  refine ⟨m,?_⟩
  have:=World.var?_cell (P:=Tryd.prog) (g:=1) (by kernel_rfl) hm 0
  simpa using this
theorem itoa_calls {w : World} {n : Int} (hG : GV w) (h0 : -9223372036854775808 ≤ n) (h1 : n ≤ 9223372036854775807) :
    Calls Tryd.prog 18 #[.int .i64 n] w fun e w' => e = .returned (.string ⟨(Lib.itoa n).toArray⟩) ∧ Below w.heap.size w w':=by
  refine (Tryd.strconv_Itoa n h0 h1 w hG.pow).mono ?_
  rintro e w' ⟨rfl,k,os,rfl⟩
  exact ⟨rfl,Lib.below_grow _ w (Nat.le_refl _) k os⟩
theorem cut_calls {w : World} {s sep : ByteArray} (hG : GV w) (hs : s.size < 4294967281) :
    Calls Tryd.prog 22 #[.string s,.string sep] w fun e w' => e = .returned (.tuple #[.string ⟨(Lib.cut s.data.toList sep.data.toList).1.toArray⟩,.string ⟨(Lib.cut s.data.toList sep.data.toList).2.1.toArray⟩,.bool (Lib.cut s.data.toList sep.data.toList).2.2]) ∧ Below w.heap.size w w':=by
  obtain ⟨m,hm⟩:=max_cell hG
  refine (Tryd.strings_Cut s sep m w hs hm).mono ?_
  rintro e w' ⟨rfl,n,rfl⟩
  exact ⟨rfl,below_drewN0 w n⟩
theorem toList_inj {s t : ByteArray} (h : s.toList = t.toList) : s = t:=by
  rw [ByteArray.toList_eq,ByteArray.toList_eq] at h
  exact ByteArray.ext (Array.toList_inj.1 h)
def numberF (s : ByteArray) : Int:=match Lib.parseUintB 31 s.data.toList with
  | .ok u => if (⟨(Lib.itoa (u : Int)).toArray⟩ : ByteArray) = s then (u : Int) else -1
  | _ => -1
set_option maxHeartbeats 2000000 in
set_option maxRecDepth 100000 in
theorem number_calls {w : World} {s : ByteArray} (hG : GV w) (hs : s.size ≤ 281474976710656) :
    Calls Tryd.prog 33 #[.string s] w fun e w' => e = .returned (.int .i64 (numberF s)) ∧ Below w.heap.size w w':=by
  unfold numberF
  cases hp : Lib.parseUintB 31 s.data.toList with
  | ok u =>
    dsimp only
    have hu:=Lib.parseUintB_le hp
    have hc : Calls Tryd.prog 53 #[.string s,.int .i64 10,.int .i64 31] w fun e w' => e = .returned (.tuple #[.int .u64 u,.nilIface]) ∧ Below w.heap.size w w' :=
      (AnyP31.ParseUint_10_at31_ok Tryd.laysPu14 s (by omega) u hp w).mono fun e w' ⟨he,hw⟩ => ⟨he,by rcases hw with rfl|rfl;exact Below.refl _ _;exact Lib.bytesWorld_below _ _ _⟩
    have HC:=Aside0.mk hc
    have HG:=Aside0.mk hG
    have hw : IntKind.i64.wrap (u : Int) = (u : Int):=by rw [IntKind.wrap_i64];omega
    have HI : Aside0 (∀ W,GV W → Calls Tryd.prog 18 #[.int .i64 (u : Int)] W fun e w' => e = .returned (.string ⟨(Lib.itoa (u : Int)).toArray⟩) ∧ Below W.heap.size W w'):=⟨fun W hW => itoa_calls hW (by omega) (by omega)⟩
    generalize (⟨(Lib.itoa (u : Int)).toArray⟩ : ByteArray) = t at HI ⊢
    clear hc hp hG hu
    by_cases c : t = s
    · rw [if_pos c]
      subst c
      go_enter Tryd.func33,Tryd.ntmps33
      go_wp2_with (first|(go_at_call 53;refine (HC.out).mono ?_;rintro e w1 ⟨rfl,hb⟩;have HB:=Aside0.mk hb;clear hb)|(go_at_call 18;refine (HI.out _ (HG.out.below HB.out)).mono ?_;rintro e w2 ⟨rfl,hb2⟩;have HB2:=Aside0.mk (HB.out.trans (SHlower HB.out.size hb2));clear hb2))
      repeat (go_quiet (fail);try go_wp2)
      go_ret
      exact ⟨rfl,HB2.out⟩
    · rw [if_neg c]
      have cb : (t.toList == s.toList) = false:=beq_eq_false_iff_ne.mpr (fun h => c (toList_inj h))
      go_enter Tryd.func33,Tryd.ntmps33
      go_wp2_with (first|(go_at_call 53;refine (HC.out).mono ?_;rintro e w1 ⟨rfl,hb⟩;have HB:=Aside0.mk hb;clear hb)|(go_at_call 18;refine (HI.out _ (HG.out.below HB.out)).mono ?_;rintro e w2 ⟨rfl,hb2⟩;have HB2:=Aside0.mk (HB.out.trans (SHlower HB.out.size hb2));clear hb2))
      repeat (go_quiet (fail);try go_wp2)
      go_ret
      exact ⟨rfl,HB2.out⟩
  | range =>
    dsimp only
    obtain ⟨tp,p,hv⟩:=hG.rng
    have hc : Calls Tryd.prog 53 #[.string s,.int .i64 10,.int .i64 31] w fun e w' => ∃ N,e = .returned (.tuple #[.int .u64 2147483647,.iface 129 (.pointer (some ⟨N,0,none⟩))]) ∧ Below w.heap.size w w' :=
      (AnyP31.ParseUint_10_at31_range_var Tryd.laysPu14 s hs hp tp p w hv).mono fun e w' ⟨N,he,_,_,hw⟩ => ⟨N,he,hw⟩
    have HC:=Aside0.mk hc
    clear hc hp hv hG
    go_enter Tryd.func33,Tryd.ntmps33
    go_wp2_with (go_at_call 53;refine (HC.out).mono ?_;rintro e w1 ⟨M,rfl,hb⟩;have HB:=Aside0.mk hb;clear hb)
    repeat (go_quiet (fail);try go_wp2)
    go_ret
    exact ⟨rfl,HB.out⟩
  | _ =>
    dsimp only
    obtain ⟨tp,p,hv⟩:=hG.syn
    have hc : Calls Tryd.prog 53 #[.string s,.int .i64 10,.int .i64 31] w fun e w' => ∃ N,e = .returned (.tuple #[.int .u64 0,.iface 129 (.pointer (some ⟨N,0,none⟩))]) ∧ Below w.heap.size w w' :=
      (AnyP31.ParseUint_10_at31_syntax_var Tryd.laysPu14 s hs hp tp p w hv).mono fun e w' ⟨N,he,_,_,hw⟩ => ⟨N,he,hw⟩
    have HC:=Aside0.mk hc
    clear hc hp hv hG
    go_enter Tryd.func33,Tryd.ntmps33
    go_wp2_with (go_at_call 53;refine (HC.out).mono ?_;rintro e w1 ⟨M,rfl,hb⟩;have HB:=Aside0.mk hb;clear hb)
    repeat (go_quiet (fail);try go_wp2)
    go_ret
    exact ⟨rfl,HB.out⟩
end Go.Proofs.YtifigmamaakigaaDoor.V

