import Derived.Test.YtojepjkpnponoaaDoorRows
import Derived.Test.YtojepjkpnponoaaDoorTie
import Derived.Test.YtojepjkpnponoaaDoorCards
import Derived.Test.YtojepjkpnponoaaDoorFStim0
import Derived.ProofKit
import Derived.SizedLaws
import Derived.OpenShut
import Derived.Test.YtojepjkpnponoaaDoorFLaid
import Derived.Test.YtojepjkpnponoaaDoorFPureB
import Derived.LaidMore
import Derived.Lay
import Derived.LaidSub
import Derived.MakeChecks
import Derived.Stop.LaidErr
import Derived.Shelf.Vars
import Derived.SevenTiedAt
set_option linter.unusedSimpArgs false
namespace Go.Proofs.YtojepjkpnponoaaDoor.Forth
open Go Go.ChangeShapes Go.WideShapes Go.ChangeAt Go.RowKit
open Go.Proofs.YtojepjkpnponoaaDoor.Stim
set_option linter.unusedVariables false
set_option maxRecDepth 100000
theorem own : ownKnob Tryd.prog.godebug = none:=by kernel_rfl
theorem laidOut : laidOutB Tryd.prog = true:=by kernel_rfl
theorem lifted_of {H : Type} {enc : TypeId × Value → H} {a : Assume} {C : Checked} {os : Os} {f : FuncId} {fn : Func} {s : ChangeSpec} {conds : List PathCond} {apart fresh handsOn again : Bool} {X : World → Array Value → Prop}
    (hX : ∀ (w w' : World) (args : Array Value),w.heap = w'.heap → X w args → X w' args)
    (own : ownKnob C.prog.godebug = none) (started : os.Started) (noInit : C.prog.inits.idxOf? f = none) (hfn : C.prog.funcs[f]? = some fn)
    (witness : ∃ (w : World) (tape : Tape) (i : Input),w.os = os ∧ (w.forCall tape i).Shaped C.prog ∧ i.vars = [] ∧ Input.okWide C.prog (w.forCall tape i) .any w.heap.size f i ∧
      ((s.pre enc C.prog fn conds apart (w.forCall tape i).memory i.args ∧ X (w.forCall tape i).memory i.args) ∧ sizedMet enc C.prog fn (OpenSpec.ofChange s) apart (w.forCall tape i).memory i.args) ∧ a.holds C.prog (lone (Frame.enter C.prog f i.args .normal) [] (w.forCall tape i)))
    (contract : ∀ (W : World) (base : Nat) (args : Array Value) (ds gs : List (DataW H)) (before : List MemPlace),
      (∀ (j : Nat) t v,fn.params[j]? = some t → args[j]? = some v → Value.okWide C.prog W .any base t v) →
      DataW.Whole enc C.prog fn.params.toList s.vars apart W args.toList ds gs before →
      conds.all (PathCond.test C.prog ⟨fn.params.toList,ds,s.plain.varTypes C.prog,gs⟩) = true →
      (DataW.weightsEach C.prog (fn.params.toList ++ s.plain.varTypes C.prog) (ds ++ gs)).all (· ≤ reachBytes) = true → X W args → W.ShapedOpen C.prog →
      a.holds C.prog (lone (Frame.enter C.prog f args .normal) [] W) →
      Calls C.prog f args W fun e W' => ∃ v,e = .returned v ∧ s.post enc C.prog fn apart fresh handsOn again W args v W') :
    ReturnsInHanded a C os f .any (fun w args => (s.pre enc C.prog fn conds apart w args ∧ X w args) ∧ sizedMet enc C.prog fn (OpenSpec.ofChange s) apart w args) (s.post enc C.prog fn apart fresh handsOn again):=by
  refine returnsInHanded_of_calls own started noInit witness ?_
  intro w tape i _ hsh _ hok hpre hholds
  obtain ⟨_,_,_,fn',hfn',_,_,_,_,hval⟩:=hok
  have e : fn' = fn:=Option.some.inj (hfn'.symm.trans hfn)
  subst e
  obtain ⟨⟨⟨ds,gs,before,hw,hc⟩,hx⟩,hz⟩:=hpre
  have hw':=DataW.Whole.of_heap (w':=w.forCall tape i) (by rfl) hw
  refine (contract (w.forCall tape i) w.heap.size i.args ds gs before hval hw' hc (hz.weights hw) (hX _ _ _ (by rfl) hx) hsh hholds).mono fun e W' ⟨v,he,hp⟩ => ?_
  subst he
  exact ChangeSpec.post_blind hp
theorem open_size {H : Type} {enc : TypeId × Value → H} {W : World} {base b0 : Nat} {sp : Nat → Bool} {held : Bool} {r : Reach} {v : Value} {d : DataW H} {p : List MemPlace} (hv : Value.okWide Tryd.prog W r b0 30 v) (h : DataW.Trod enc Tryd.prog W base sp held 30 v d p) : ∃ a b : Int,v = .agg #[.int .i64 a,.int .i64 b]:=by
  obtain ⟨cs,rfl,hsz⟩:=okWide_struct Tryd.underlying30 hv
  obtain ⟨fuel,hT⟩:=h
  obtain ⟨cs⟩:=cs
  have c30 : Tryd.prog.cellsOf 30 = 2:=by kernel_rfl
  have c3 : Tryd.prog.cellsOf 3 = 1:=by kernel_rfl
  rw [c30] at hsz
  obtain ⟨xs,m,rfl,hxe,_,hx,hfs⟩:=DataW.trod_struct Tryd.underlying30 hT
  match cs,hsz with
  | [a,b],_ =>
    match xs,hx with
    | [x0,x1],_ =>
      have h0 : DataW.trod enc Tryd.prog W base sp held m 3 (([a,b].drop 0).take (Tryd.prog.cellsOf 3)) = some x0:=hfs 0 _ rfl
      have h1 : DataW.trod enc Tryd.prog W base sp held m 3 (([a,b].drop 1).take (Tryd.prog.cellsOf 3)) = some x1:=hfs 1 _ rfl
      rw [c3] at h0 h1
      obtain ⟨k0,e0,_⟩:=DataW.trod_int Tryd.underlying3 h0
      obtain ⟨k1,e1,_⟩:=DataW.trod_int Tryd.underlying3 h1
      simp at e0 e1
      subst e0
      subst e1
      exact ⟨k0,k1,rfl⟩
theorem gv_of {W : World} (h : laidMetH Tryd.prog Rows.stimForthRow.laid W) (hsh : W.ShapedOpen Tryd.prog) : GV W :=
  gv_of_laid h (by kernel_rfl) (by simp [Rows.stimForthRow]) (by simp [Rows.stimForthRow]) (by kernel_rfl) hsh
theorem door_met (os : Os) (args : Array Value) : laidMetH Tryd.prog Rows.stimForthRow.laid ((World.laidAll Tryd.prog os Rows.stimForthRow.laid).forCall (fun _ _ => 0) ⟨#[],args,[]⟩).memory:=by
  rw [MakeChecks.laidMetH_plain _ _ _ (by kernel_rfl)]
  exact laidMet_laidAll args (by kernel_rfl) (by kernel_rfl)
theorem lifted (os : Os) (started : os.Started) (H : Type) (enc : TypeId × Value → H) :
    ReturnsInHanded {} Tryd.checked os 5 .any (fun w args => (Rows.stimForthSpec.pre enc Tryd.prog Tryd.f5 [] false w args ∧ laidMetH Tryd.prog Rows.stimForthRow.laid w) ∧ sizedMet enc Tryd.prog Tryd.f5 (OpenSpec.ofChange Rows.stimForthSpec) false w args)
      (Rows.stimForthSpec.post enc Tryd.prog Tryd.f5 false true false false):=by
  refine lifted_of (C:=Tryd.checked) (X:=fun w _ => laidMetH Tryd.prog Rows.stimForthRow.laid w) (fun _ _ _ hh h => h.of_heap hh) own started (by kernel_rfl) Tryd.func5
    (ChangeSpec.witness_shaped (enc:=enc) (C:=Tryd.checked) (os:=os) (X:=fun w _ => laidMetH Tryd.prog Rows.stimForthRow.laid w) false (World.laidAll Tryd.prog os Rows.stimForthRow.laid) #[.string ⟨#[]⟩,.string ⟨#[]⟩,.agg #[.int .i64 0,.int .i64 0]] 8 (World.laidAll_os _ _ _) (World.shaped_of_RefB (by kernel_rfl) (by kernel_rfl)) (by kernel_rfl) (by kernel_rfl) (by kernel_rfl) (door_met os _)) ?_
  intro W base args ds gs before hval0 hW _ hsz0 hL hsh _
  have hsz : (DataW.weightsEach Tryd.prog (Tryd.f5.params.toList ++ Rows.stimForthSpec.plain.varTypes Tryd.prog) (ds ++ gs)).all (· ≤ reachBytes) = true:=hsz0
  have hval : ∀ (j : Nat) t v,Tryd.f5.params[j]? = some t → args[j]? = some v → Value.okWide Tryd.prog W .any base t v:=hval0
  have hG:=gv_of hL hsh
  have hW':=hW
  obtain ⟨p,q,hA0,hV,rfl,hfz,hnd⟩:=hW
  have hA : DataW.TrodAll enc Tryd.prog W 0 (fun _ => true) true Tryd.f5.params.toList args.toList ds p:=hA0
  rw [Tryd.params5] at hA hval hsz
  obtain ⟨v0,vs0,d0,ds0,p0,q0,hargs,rfl,rfl,h0,r0⟩:=trodAll_cons hA
  obtain ⟨v1,vs1,d1,ds1,p1,q1,rfl,rfl,rfl,h1,r1⟩:=trodAll_cons r0
  obtain ⟨v2,vs2,d2,ds2,p2,q2,rfl,rfl,rfl,h2,r2⟩:=trodAll_cons r1
  obtain ⟨rfl,rfl,rfl⟩:=trodAll_nil r2
  obtain rfl : args = #[v0,v1,v2]:=by cases args;simp_all
  obtain ⟨rfl,rfl⟩:=trodVars_none hV
  have k0:=h0
  have lt0 : ∀ x ∈ p0,x.block < W.heap.size:=by obtain ⟨m,hm⟩:=k0;exact DataW.trod_lt m _ _ _ hm
  have k1:=h1
  have lt1 : ∀ x ∈ p1,x.block < W.heap.size:=by obtain ⟨m,hm⟩:=k1;exact DataW.trod_lt m _ _ _ hm
  have k2:=h2
  have lt2 : ∀ x ∈ p2,x.block < W.heap.size:=by obtain ⟨m,hm⟩:=k2;exact DataW.trod_lt m _ _ _ hm
  obtain ⟨s0,rfl⟩:=okWide_string Tryd.underlying9 (hval 0 9 v0 rfl rfl)
  have z0 : s0.size ≤ reachBytes:=by
    obtain ⟨m,hm⟩:=h0
    obtain ⟨u,hu,hx,_⟩:=DataW.trod_string Tryd.underlying9 hm
    have hu' : s0 = u:=by simpa [Value.cells] using hu
    subst hu'
    have hd : d0 = .lit (.string s0.data.toList):=congrArg Prod.fst hx
    have:=sized_string hsz (j:=0) rfl (by rw [hd];rfl)
    simpa using this
  obtain ⟨s1,rfl⟩:=okWide_string Tryd.underlying9 (hval 1 9 v1 rfl rfl)
  have z1 : s1.size ≤ reachBytes:=by
    obtain ⟨m,hm⟩:=h1
    obtain ⟨u,hu,hx,_⟩:=DataW.trod_string Tryd.underlying9 hm
    have hu' : s1 = u:=by simpa [Value.cells] using hu
    subst hu'
    have hd : d1 = .lit (.string s1.data.toList):=congrArg Prod.fst hx
    have:=sized_string hsz (j:=1) rfl (by rw [hd];rfl)
    simpa using this
  obtain ⟨a,b,rfl⟩:=open_size (hval 2 30 v2 rfl rfl) h2
  have rb : reachBytes = 140737488351232:=rfl
  obtain ⟨K,hK⟩:=stimForth_ev s0 s1 a b (by omega)
  refine (trestlelaw12_StimForth.calls K s0 s1 a b true W hG (hK K (Nat.le_refl _))).mono fun e W' ⟨he,bel⟩ => ?_
  subst he
  exact ⟨_,rfl,_,_,_,[],_,[],hW',trodAll_mk1 (shut_bool Tryd.underlying4 _),trodAll_cons_mk (Below.trod laidOut (by kernel_rfl) (of_decide_eq_true (by kernel_rfl)) k0 bel lt0) (trodAll_cons_mk (Below.trod laidOut (by kernel_rfl) (of_decide_eq_true (by kernel_rfl)) k1 bel lt1) (trodAll_cons_mk (Below.trod laidOut (by kernel_rfl) (of_decide_eq_true (by kernel_rfl)) k2 bel lt2) (trodAll_mk0))),rfl,bel.frame _,fun h => by cases h⟩
theorem over : Rows.stimForthRow.holds Tryd.pinned (OpenSpec.ofChange Rows.stimForthSpec) :=
  OpenClaim.holds_of_wide 5 Tryd.f5 rfl rfl rfl rfl rfl rfl rfl ⟨rfl,rfl,rfl,rfl,rfl⟩ rfl rfl rfl rfl rfl (by kernel_rfl) Tryd.func5 (by kernel_rfl)
    (of_decide_eq_true (by kernel_rfl)) (by unfold Func.isWrapper;first|(rw [if_pos (by decide +kernel)];kernel_rfl)|(rw [if_neg (by decide +kernel)];exact ⟨rfl,rfl⟩))
    (fun os started H enc _ => lifted os started H enc)
end Go.Proofs.YtojepjkpnponoaaDoor.Forth

