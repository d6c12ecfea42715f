import Derived.Test.YtifigmamaakigaaDoorBV3
import Derived.Test.YtifigmamaakigaaDoorBVLib
namespace Go.Proofs.YtifigmamaakigaaDoor.V
open Go Go.RowKit Go.Proofs.YtifigmamaakigaaDoorW.PrintWords Go.Proofs.YtifigmamaakigaaDoorW.PrintLast Go.Proofs.YtifigmamaakigaaDoorW.PrintMore
set_option linter.unusedVariables false
set_option linter.unusedSimpArgs false
instance : Inhabited RW:=⟨zR⟩
def encR (r : RW) : List Value:=[.int .u8 r.f0,.int .i64 r.f1,.string r.f2,.int .i64 r.f3,.int .i64 r.f4]
theorem encR_len (r : RW) : (encR r).length = 5:=rfl
theorem encR_arr (r : RW) : (encR r).toArray = #[.int .u8 r.f0,.int .i64 r.f1,.string r.f2,.int .i64 r.f3,.int .i64 r.f4]:=rfl
theorem encR_one (r : RW) : ∀ v ∈ encR r,v.oneCell' = true:=by
  intro v hv
  simp only [encR,List.mem_cons,List.not_mem_nil,or_false] at hv
  rcases hv with rfl|rfl|rfl|rfl|rfl <;> rfl
theorem rows_cells {w : World} {A : Option Addr} {n : Nat} {xs : List RW} (h : Kd.C kR w A n xs) (hx : xs ≠ []) : ∃ b off,A = some ⟨b,off,none⟩ ∧ b < w.heap.size ∧ ∀ j,j < xs.length → ∀ i v,(encR xs[j]!)[i]? = some v → w.cell? ⟨b,off + j * 5 + i,none⟩ = some v:=by
  obtain ⟨ad,e,hc⟩:=h.2.2 (by have:=h.1;have : 0 < xs.length:=List.length_pos_iff.2 hx;omega)
  obtain ⟨b,off,el⟩:=ad
  have hb : b < w.heap.size ∧ el = none:=by
    obtain ⟨x,l,rfl⟩:=List.exists_cons_of_ne_nil hx
    obtain ⟨cs,h1,h2,h3⟩:=hc 0 x rfl
    obtain rfl:=kR_open h2
    have h3 : w.cell? ⟨b,off,el⟩ = some (.int .u8 x.f0):=h3 0 _ rfl
    refine ⟨?_,?_⟩
    · unfold World.cell? at h3
      split at h3
      · rename_i hh;exact (Array.getElem?_eq_some_iff.1 hh).1
      · cases h3
    cases el with
    | none => rfl
    | some e =>
      unfold World.cell? at h3
      split at h3
      · cases h3
      · cases h3
  obtain ⟨hb,rfl⟩:=hb
  refine ⟨b,off,e,hb,fun j hj i v hv => ?_⟩
  obtain ⟨cs,h1,h2,h3⟩:=hc j _ (List.getElem?_eq_getElem hj)
  obtain rfl:=kR_open h2
  rw [getElem!_pos xs j hj] at hv
  have:=h3 i v hv
  rwa [Addr.add_lit,← Nat.add_assoc] at this
set_option maxHeartbeats 2000000 in
set_option maxRecDepth 100000 in
theorem looked1_calls {w : World} {r : RW} (hK : KV w) : Calls Tryd.prog 25 #[.agg #[.int .u8 r.f0,.int .i64 r.f1,.string r.f2,.int .i64 r.f3,.int .i64 r.f4]] w fun e w' => e = .returned (.bool (!mayB r)) ∧ Below w.heap.size w w':=by
  have hu29:=Tryd.underlying29
  have hu31:=Tryd.underlying31
  have hb1 : Below w.heap.size w (w.alloc (.cells #[.int .u8 r.f0,.int .i64 r.f1,.string r.f2,.int .i64 r.f3,.int .i64 r.f4] 31)):=below_alloc (Below.refl _ _) _
  have MC:=Aside0.mk (may_calls (w:=w.alloc (.cells #[.int .u8 r.f0,.int .i64 r.f1,.string r.f2,.int .i64 r.f3,.int .i64 r.f4] 31)) (r:=r) (hK.below hb1))
  have HB:=Aside0.mk hb1
  clear hb1 hK
  go_enter Tryd.func25,Tryd.ntmps25
  go_wp2_with (go_at_call 26;refine (MC.out).mono ?_;rintro e w2 ⟨rfl,hb2⟩;have HB2:=Aside0.mk (HB.out.trans (SHlower HB.out.size hb2));clear hb2)
  repeat (go_quiet (fail);try go_wp2)
  go_ret
  exact ⟨rfl,HB2.out⟩
set_option maxRecDepth 100000 in
theorem may_pred {w : World} (hK : KV w) : PredBelow Tryd.prog 25 #[] (fun x => .agg (encR x).toArray) (fun r => !mayB r) w:=by
  unfold PredBelow
  intro W x hb
  dsimp only
  rw [Array.append_empty,encR_arr]
  have h1:=looked1_calls (w:=W) (r:=x) (hK.below hb)
  refine Calls.mono h1 ?_
  rintro e w' ⟨h2,h3⟩
  exact ⟨h2,hb.trans (SHlower hb.size h3)⟩
set_option maxHeartbeats 2000000 in
set_option maxRecDepth 100000 in
theorem cf_none {w : World} {A : Option Addr} {c : Nat} {fv : Value} : Calls Tryd.prog 24 #[.slice A 0 c,fv] w fun e w' => e = .returned (.bool false) ∧ w' = w:=by
  have IC : ∀ W,Calls Tryd.prog 35 #[.slice A 0 c,fv] W fun e w' => e = .returned (.int .i64 (-1)) ∧ w' = W:=by
    intro W
    go_enter Tryd.func35,Tryd.ntmps35
    go_wp2
    refine wp_loop_rounds 1 ?_
    rw [rounds_succ]
    go_wp2
    repeat (go_quiet (fail);try go_wp2)
    go_ret
    exact ⟨rfl,rfl⟩
  go_enter Tryd.func24,Tryd.ntmps24
  go_wp2_with (go_at_call 35;refine (IC _).mono ?_;rintro e w2 ⟨rfl,rfl⟩)
  repeat (go_quiet (fail);try go_wp2)
  go_ret
  exact ⟨rfl,rfl⟩
set_option maxRecDepth 100000 in
theorem cf_calls {w : World} {A : Option Addr} {c : Nat} {xs : List RW} (hK : KV w) (h : Kd.C kR w A xs.length xs) (hn : xs.length ≤ 16384) : Calls Tryd.prog 24 #[.slice A xs.length c,.func (.func 25) #[] #[]] w fun e w' => e = .returned (.bool (!xs.all mayB)) ∧ Below w.heap.size w w':=by
  by_cases hx : xs = []
  · subst hx
    exact cf_none.mono (fun e w' h => ⟨h.1,by rw [h.2];exact Below.refl _ _⟩)
  · obtain ⟨b,off,rfl,hb,hc⟩:=rows_cells h hx
    have:=AnyQ.slices_ContainsFunc Tryd.laysCF 5 Tryd.isAgg31 Tryd.sizeOf31 encR encR_len (fun r => !mayB r) 25 #[] (enters_of Tryd.func25 (by kernel_rfl) rfl) b off xs.length c xs w (may_pred hK) (Nat.le_refl _) (by omega) hb hc
    rw [List.take_length] at this
    have e : (!xs.all mayB) = xs.any (fun r => !mayB r):=by simp [List.all_eq_not_any_not]
    rw [e]
    exact this
set_option maxHeartbeats 2000000 in
set_option maxRecDepth 100000 in
theorem looked_calls {w : World} {A : Option Addr} {c : Nat} {xs : List RW} (hK : KV w) (h : Kd.C kR w A xs.length xs) : Calls Tryd.prog 11 #[.slice A xs.length c] w fun e w' => e = .returned (.int .i64 (wrongF xs)) ∧ Below w.heap.size w w':=by
  have hw : wrongF xs = if 16384 < xs.length then 2 else if xs.all mayB then 0 else 270:=rfl
  rw [hw]
  clear hw
  by_cases c1 : 16384 < xs.length
  · have cb : decide ((xs.length : Int) > 16384) = true:=decide_eq_true (by omega)
    rw [if_pos c1]
    clear c1 h hK
    go_enter Tryd.func11,Tryd.ntmps11
    go_wp2
    repeat (go_quiet (fail);try go_wp2)
    go_ret
    exact ⟨rfl,Below.refl _ _⟩
  · have cb : decide ((xs.length : Int) > 16384) = false:=decide_eq_false (by omega)
    rw [if_neg c1]
    have CC:=cf_calls (c:=c) hK h (by omega)
    generalize xs.all mayB = B at CC ⊢
    generalize xs.length = n at CC cb ⊢
    have CC:=Aside0.mk CC
    clear c1 h hK
    cases B with
    | true =>
      go_enter Tryd.func11,Tryd.ntmps11
      go_wp2_with (go_at_call 24;refine (CC.out).mono ?_;rintro e w2 ⟨rfl,hb2⟩)
      repeat (go_quiet (fail);try go_wp2)
      go_ret
      exact ⟨rfl,hb2⟩
    | false =>
      go_enter Tryd.func11,Tryd.ntmps11
      go_wp2_with (go_at_call 24;refine (CC.out).mono ?_;rintro e w2 ⟨rfl,hb2⟩)
      repeat (go_quiet (fail);try go_wp2)
      go_ret
      exact ⟨rfl,hb2⟩
end Go.Proofs.YtifigmamaakigaaDoor.V

