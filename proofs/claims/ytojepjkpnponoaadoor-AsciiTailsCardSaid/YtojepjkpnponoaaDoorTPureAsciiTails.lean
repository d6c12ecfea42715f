import Derived.Test.YtojepjkpnponoaaDoorTAsc5
import Derived.Test.YtojepjkpnponoaaDoorTM36
set_option linter.unusedSimpArgs false
namespace Go.Proofs.YtojepjkpnponoaaDoor.Asc
open Go Go.RowKit Go.Proofs.YtojepjkpnponoaaDoorW.PrintWords
set_option linter.unusedVariables false
theorem tails_loop (l : List S59) (hl : l.length ≤ 262145) (m : Nat) : ∀ i,i + m = l.length → Ev (fun k => trestlelaw04_AsciiTails.l0 k l l (i : Int)) true:=by
  induction m with
  | zero =>
    intro i hi
    refine Ev.succ (fun k => ?_) (Ev.const _)
    unfold trestlelaw04_AsciiTails.l0
    rw [if_neg (by omega)]
    rfl
  | succ m ih =>
    intro i hi
    refine Ev.succ (fun k => ?_) (ih (i + 1) (by omega))
    conv => lhs;unfold trestlelaw04_AsciiTails.l0
    rw [if_pos (by omega),if_pos (by omega),if_pos (by omega),if_neg (by simp),IntWalk.wrap64_in _ (by omega)]
    rfl
theorem pureTails : trestlelaw04_AsciiTails.Pure:=by
  intro a0 a1 h0 _
  have hT:=tailF_ev a0 a1
  obtain ⟨l1,l2⟩:=tailF_len a0 a1
  have hA : ascii_Tail.f a0 a1 = some (tailF a0 a1):=by
    unfold ascii_Tail.f
    rw [if_pos (by omega)]
  generalize tailF a0 a1 = R at hT hA l1 l2
  obtain ⟨x,y,f,c⟩:=R
  have hS : Ev (fun k => trestlebook_SameTexts.f k y y) true:=by
    refine Ev.congr (fun k => ?_) (texts_loop y l2 y.length 0 (by omega))
    unfold trestlebook_SameTexts.f
    rw [if_pos rfl]
    rfl
  have hJ : Ev (fun k => trestlelaw04_AsciiTails.j0 k x x false) true:=by
    refine Ev.succ (fun k => ?_) (tails_loop x l1 x.length 0 (by omega))
    conv => lhs;unfold trestlelaw04_AsciiTails.j0
    rfl
  obtain ⟨K1,h1⟩:=hT
  obtain ⟨K2,h2⟩:=hS
  obtain ⟨K3,h3⟩:=hJ
  refine ⟨K1 + K2 + K3,?_⟩
  unfold trestlelaw04_AsciiTails.f
  have h1 : trestleref04_Tail.f (K1 + K2 + K3) a0 a1 = some (x,y,f,c):=h1 _ (by omega)
  have h2 : trestlebook_SameTexts.f (K1 + K2 + K3) y y = some true:=h2 _ (by omega)
  rw [hA,Option.bind_some,h1,Option.bind_some,if_pos rfl,h2,Option.bind_some,if_pos rfl]
  have e : (!((x,y,f,c).2.2.1 == (x,y,f,c).2.2.1) || !((x,y,f,c).2.2.2 == (x,y,f,c).2.2.2)) = false:=by simp
  rw [e]
  exact h3 _ (by omega)
end Go.Proofs.YtojepjkpnponoaaDoor.Asc

