import Derived.Test.YtojepjkpnponoaaDoorFStim0
set_option linter.unusedVariables false
set_option linter.unusedSimpArgs false
namespace Go.Proofs.YtojepjkpnponoaaDoor.Stim
open Go Go.RowKit Go.Proofs.YtojepjkpnponoaaDoorW.PrintWords Go.Proofs.YtojepjkpnponoaaDoorW.PrintLast Go.Proofs.YtojepjkpnponoaaDoorW.PrintMore
theorem info5 : (Tryd.prog.info? 5).map (fun i => (i.zero,i.size,i.bytes)) = some (some (.int .u8 0),1,1):=by kernel_rfl
section
variable {P : Program} {ops : Array Oper} {rest : List Oper} {o : Oper} {a : Act} {Q : Exit → Act → World → Prop}
theorem mkcap {α : Type} (d : Kd α) {w0 W : World} (base e : Nat) (hgd : o.guard = none) (t : TypeId) (x y : Operand) (ho : o.op = .makeSlice t x y) (n : Nat) (hx : a.eval x = .int .i64 0) (hy : a.eval y = .int .i64 (n : Int))
    (ht : P.underlying t = some (.slice e)) (z : Value) (bytes : Nat) (hinfo : (P.info? e).map (fun i => (i.zero,i.size,i.bytes)) = some (some z,d.sz,bytes)) (hl : bytes * n ≤ 281474976710656) (h63 : n ≤ maxLen) {ok : Nat → Prop} (hfresh : ok W.heap.size) (HB : Below base w0 W) (hbase : base ≤ W.heap.size)
    (h : ∀ v1 w1,d.R e w1 base ok v1 [] → Below base w0 w1 → Below W.heap.size W w1 → wpList P ops Q rest (a.put o.dst v1) w1) : wpList P ops Q (o :: rest) a W:=by
  obtain ⟨i0,hi,hzz⟩:=Option.map_eq_some_iff.1 hinfo
  simp only [Prod.mk.injEq] at hzz
  obtain ⟨hz0,hz1,hz2⟩:=hzz
  obtain ⟨w',hr,hown,hg⟩:=run_make_own (P:=P) W base t e i0 z d.sz ht hi hz0 hz1 .i64 .i64 n (by rw [hz2];exact hl) h63 hbase
  refine Kd.event_run hgd (v:=.slice (some ⟨W.heap.size,0,none⟩) 0 n) (w1:=w') ?_ (h _ _ ?_ ?_ ?_)
  · simp [execOp,ho,hx,hy,hr,Result.andThen]
  · refine ⟨fun k hk => ?_,[],hown,Reps.none _ _⟩
    simp [Value.ownBlock] at hk
    subst hk
    exact hfresh
  · exact HB.grown hg hbase (fun k e => by cases e)
  · exact (Below.refl _ _).grown hg (Nat.le_refl _) (fun k e => by cases e)
end
end Go.Proofs.YtojepjkpnponoaaDoor.Stim

