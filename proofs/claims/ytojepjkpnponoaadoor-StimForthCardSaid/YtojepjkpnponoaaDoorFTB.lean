import Derived.Test.YtojepjkpnponoaaDoorFTail
set_option linter.unusedSimpArgs false
namespace Go.Proofs.YtojepjkpnponoaaDoor.Stim
open Go Go.RowKit Go.Proofs.YtojepjkpnponoaaDoorW.PrintWords Go.Proofs.YtojepjkpnponoaaDoorW.PrintLast Go.Proofs.YtojepjkpnponoaaDoorW.PrintMore
set_option linter.unusedVariables false
structure TB (w W : World) (cs : Array Value) (v : Value) (l : List UInt8) : Prop where
  own : OwnT W w.heap.size v l
  wit : W.heap[w.heap.size]? = some (.cells cs 28 (0,0))
  bel : Below w.heap.size w W
section
variable {w W W1 : World} {cs : Array Value} {v : Value} {l : List UInt8}
theorem TB.below (h : TB w W cs v l) (hb : Below W.heap.size W W1) : TB w W1 cs v l:=⟨h.own.below hb,blk_below h.wit hb,h.bel.trans (hb.mono h.bel.size)⟩
theorem TB.drawn (h : TB w W cs v l) (hd : Drawn0 W W1) : TB w W1 cs v l:=by
  obtain ⟨m,rfl⟩:=hd
  exact h.below (eN_ (Below.refl _ _) m)
theorem TB.alloc (h : TB w W cs v l) (o : Obj) : TB w (W.alloc o) cs v l:=h.below (eA_ (Below.refl _ _) o)
theorem TB.step {v' : Value} {l' : List UInt8} (h : TB w W cs v l) (hg : W.grownBy W1 v.ownBlock) (ho : OwnT W1 w.heap.size v' l') : TB w W1 cs v' l':=by
  refine ⟨ho,blk_grown h.wit hg ?_,h.bel.grown hg h.bel.size (fun k e => (h.own.own k e).1)⟩
  intro e
  obtain ⟨_,c,fz,hc⟩:=h.own.own _ e.symm
  rw [h.wit] at hc
  injection hc with hc
  injection hc with _ hc
  cases hc
theorem TB.conv (hk : W.heap[w.heap.size]? = some (.cells cs 28 (0,0))) (hb : Below w.heap.size w W) (s : ByteArray) (hs : s.size ≤ 140737488355328) :
    ∃ v' w',(convert 9 70 (.string s)).run Tryd.prog W = .ok v' w' ∧ TB w w' cs v' s.data.toList:=by
  obtain ⟨v',w',hr,ho,hw⟩:=OwnT.conv W w.heap.size hb.size s hs
  exact ⟨v',w',hr,ho,blk_below hk hw,hb.trans (hw.mono hb.size)⟩
section
variable {ops : Array Oper} {rest : List Oper} {o : Oper} {a : Act} {Q : Exit → Act → World → Prop}
end
end
end Go.Proofs.YtojepjkpnponoaaDoor.Stim

