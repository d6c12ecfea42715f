import Derived.RangeFuncCalls
import Derived.OrdersIn
import Derived.Test.YtojepjkpnponoaaDoorFWords
set_option linter.unusedVariables false
set_option linter.unusedSimpArgs false
namespace Go
open Go.RowKit
theorem rowsIn_of {n l : Nat} {P : Program} {row : String} {args : Array Value} {w : World} {R : Value → World → Prop} (h : Rows P row args w R) : RowsIn (Fence.wide.inRound l) n P row args w R :=
  fun c cs _ => let ⟨v,w',r,s⟩:=h c cs;⟨v,w',r,stepsIn_wide.2 s⟩
theorem Oper.in_of_wp {l n : Nat} {P : Program} {o : Oper} {a : Act} {w : World} {K : Act → World → Prop} {Q : Exit → Act → World → Prop} (hd : ∀ c,o.op ≠ .defer c) (h : o.wp P a w K Q) : o.wpIn (Fence.wide.inRound l) n P a w K Q:=by
  refine ⟨fun _ _ => trivial,?_⟩
  rw [Oper.semAt_eq _ _ _ hd]
  unfold Oper.wp at h
  generalize (execOp a.eval o).run P w = r at h ⊢
  cases r with
  | ok x w' =>
    cases x with
    | value v => exact h
    | skip => exact h
    | defer d => exact h
    | enter f args => exact ⟨fun h => (by cases h),CallsIn.inRound l (callsIn_wide.2 h)⟩
    | row r args => exact ⟨fun h => (by cases h),rowsIn_of h⟩
    | _ => exact h.elim
  | halt x w' => cases x <;> first|exact h|exact h.elim
def notDefer : Op → Bool
  | .defer _ => false
  | _ => true
section
variable {P : Program} {ops : Array Oper} {Q : Exit → Act → World → Prop} {md : Region.Mode} {l n : Nat}
theorem wpOpIn_of (hd : ops.toList.all (fun o => notDefer o.op) = true) (hlo : ¬ LetsOut Q) {i : Nat} {K : Act → World → Prop} {a : Act} {w : World} (h : wpOp P ops Q i K a w) : wpOpIn (Fence.wide.inRound l) n P ops Q i K a w:=by
  unfold wpOp at h
  unfold wpOpIn
  cases ho : ops[i]? with
  | none => rw [ho] at h;exact h
  | some o =>
    rw [ho] at h
    dsimp only at h ⊢
    have hdo : ∀ c,o.op ≠ .defer c:=by
      intro c hc
      have hm : o ∈ ops.toList:=by
        obtain ⟨hi,he⟩:=Array.getElem?_eq_some_iff.1 ho
        rw [← he]
        simp
      have:=(List.all_eq_true.1 hd) o hm
      rw [hc] at this
      cases this
    by_cases hw : Region.wanted o (yielded ops a.tmps) = true
    · rw [if_pos hw] at h ⊢
      rcases h with h|h
      · exact Oper.in_of_wp hdo h
      · exact absurd h.2 hlo
    · rw [if_neg hw] at h ⊢
      exact ⟨fun _ _ => trivial,h⟩
theorem wpAnyIn_of (hd : ops.toList.all (fun o => notDefer o.op) = true) (hlo : ¬ LetsOut Q) : ∀ (fuel : Nat) (listed : Array Bool) (a : Act) (w : World),wpAny P md ops Q fuel listed a w → wpAnyIn (Fence.wide.inRound l) n P md ops Q fuel listed a w
  | 0,_,_,_,h => h
  | fuel + 1,_,_,_,h => ⟨h.1,fun i hi => wpOpIn_of hd hlo (wpOp_mono (fun a' w' h' => wpAnyIn_of hd hlo fuel _ a' w' h') (h.2 i hi))⟩
open Go.Proofs.YtojepjkpnponoaaDoorW.PrintLast in
theorem startIn_ {S : World → Prop} {ds : List Nat} {id m : Nat} {a : Act} {w : World} (lt : Array Bool) (hm : P.follows .mixedOrders = true) (hn : ops.size = m) (hl : Array.replicate m false = lt) (hd : ops.toList.all (fun o => notDefer o.op) = true) (hlo : ¬ LetsOut Q) (hS : S w.drew)
    (h : S w.drew → wpAnyLast P .any ops Q S ds m lt a w.drew) : (Code.region id ops true).wpIn (Fence.wide.inRound l) n P Q a w:=by
  subst hn
  subst hl
  exact wpIn_region_any hm (wpAnyIn_of hd hlo _ _ _ _ (wpAny_of_last _ _ _ _ (h hS)))
end
end Go

