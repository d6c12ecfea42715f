import Derived.Test.YtifigmamaakigaaDoorBV1
import Derived.Test.YtifigmamaakigaaDoorBShelf
namespace Go.Proofs.YtifigmamaakigaaDoor.V
open Go Go.RowKit Go.Proofs.YtifigmamaakigaaDoorW.PrintWords Go.Proofs.YtifigmamaakigaaDoorW.PrintLast Go.Proofs.YtifigmamaakigaaDoorW.PrintMore
set_option linter.unusedVariables false
set_option linter.unusedSimpArgs false
def kindL : List ByteArray:=[⟨#[117,110,107,110,111,119,110]⟩,⟨#[]⟩,⟨#[]⟩,⟨#[115,97,102,101]⟩,⟨#[117,110,115,97,102,101]⟩]
def KV (w : World) : Prop:=w.heap[0]? = some (.cells (kindL.map Value.string).toArray 71 (0,0))
theorem KV.below {w W : World} (h : KV w) (hb : Below w.heap.size w W) : KV W:=(hb.block 0 (blk_lt h)).trans h
def wordF (k : Int) : ByteArray:=if k < 0 ∨ k ≥ 5 then ⟨#[]⟩ else kindL.getD k.toNat ⟨#[]⟩
set_option maxHeartbeats 2000000 in
set_option maxRecDepth 100000 in
theorem word_calls {w : World} {k : Int} (hK : KV w) : Calls Tryd.prog 19 #[.int .i64 k] w fun e w' => e = .returned (.string (wordF k)) ∧ w' = w:=by
  by_cases c : k < 0 ∨ k ≥ 5
  · have hv : wordF k = ⟨#[]⟩:=by unfold wordF;rw [if_pos c]
    rw [hv]
    by_cases c1 : k < 0
    · have c1b : decide (k < 0) = true:=decide_eq_true c1
      clear hv c c1
      go_enter Tryd.func19,Tryd.ntmps19
      go_wp2
      repeat (go_quiet (fail);try go_wp2)
      go_ret
      exact ⟨rfl,rfl⟩
    · have c1b : decide (k < 0) = false:=decide_eq_false c1
      have c2 : k ≥ 5:=by omega
      have c2b : decide (k ≥ 5) = true:=decide_eq_true c2
      clear hv c c1 c2
      go_enter Tryd.func19,Tryd.ntmps19
      go_wp2
      repeat (go_quiet (fail);try go_wp2)
      go_ret
      exact ⟨rfl,rfl⟩
  · have hv : wordF k = kindL.getD k.toNat ⟨#[]⟩:=by unfold wordF;rw [if_neg c]
    rw [hv]
    obtain ⟨n,rfl⟩ : ∃ n : Nat,k = (n : Int):=⟨k.toNat,by omega⟩
    have hn : n < 5:=by omega
    have c1b : decide ((n : Int) < 0) = false:=decide_eq_false (by omega)
    have c2b : decide ((n : Int) ≥ 5) = false:=decide_eq_false (by omega)
    have p0 : (0 ≤ (n : Int)) = True:=eq_true (by omega)
    have p1 : ((n : Int) < 5) = True:=eq_true (by omega)
    have hc : w.cell? ⟨0,n,none⟩ = some (.string (kindL.getD n ⟨#[]⟩)):=by
      rw [blk_cell hK n]
      rcases n with _|_|_|_|_|n
      · rfl
      · rfl
      · rfl
      · rfl
      · rfl
      · omega
    rw [Int.toNat_natCast]
    generalize kindL.getD n ⟨#[]⟩ = s at hc ⊢
    clear hv c
    go_enter Tryd.func19,Tryd.ntmps19
    go_wp2
    repeat (go_quiet (fail);try go_wp2)
    go_ret
    exact ⟨rfl,rfl⟩
set_option maxHeartbeats 2000000 in
set_option maxRecDepth 100000 in
theorem rune_calls {W : World} {x : Nat} (hx : x ≤ 1114111) : Calls Tryd.prog 38 #[.int .i32 x] W fun e w' => e = .returned (.bool (decide (x < 33) || decide (x > 126))) ∧ w' = W:=by
  obtain ⟨b1,hb1⟩ : ∃ b,decide (x < 33) = b:=⟨_,rfl⟩
  obtain ⟨b2,hb2⟩ : ∃ b,decide (x > 126) = b:=⟨_,rfl⟩
  have e1 : decide ((x : Int) < 33) = b1:=by rw [← hb1];simp;omega
  have e2 : decide ((x : Int) > 126) = b2:=by rw [← hb2];simp;omega
  rw [hb1,hb2]
  clear hb1 hb2
  cases b1 <;> cases b2 <;> (go_enter Tryd.func38,Tryd.ntmps38;go_wp2;repeat (go_quiet (fail);try go_wp2)) <;> (go_ret;exact ⟨rfl,rfl⟩)
end Go.Proofs.YtifigmamaakigaaDoor.V

