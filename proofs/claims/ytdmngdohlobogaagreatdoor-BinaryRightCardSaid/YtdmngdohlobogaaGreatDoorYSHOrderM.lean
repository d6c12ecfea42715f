import Derived.Test.YtdmngdohlobogaaGreatDoorYM18
namespace Go.Proofs.YtdmngdohlobogaaGreatDoor.Asc
open Go Go.RowKit Go.Proofs.YtdmngdohlobogaaGreatDoorW.PrintWords Go.Proofs.YtdmngdohlobogaaGreatDoorW.PrintLast Go.Proofs.YtdmngdohlobogaaGreatDoorW.PrintMore
set_option linter.unusedVariables false
set_option linter.unusedSimpArgs false
def nilS : Value:=.slice none 0 0
def rowAt (rows : List Value) (i : Nat) : Value:=rows.getD i nilS
theorem rowAt_set_self {rows : List Value} {i : Nat} (h : i < rows.length) (v : Value) : rowAt (rows.set i v) i = v:=by simp [rowAt,h]
theorem rowAt_set_ne {rows : List Value} {i j : Nat} (h : i ≠ j) (v : Value) : rowAt (rows.set i v) j = rowAt rows j:=by simp [rowAt,List.getElem?_set_ne h]
theorem madeI (n : Nat) (z : Value) : madeCells #[z] n = (List.replicate n z).toArray:=by
 simp only [madeCells]
 apply Array.ext
 ·simp
 ·intro i h1 h2
  simp [Nat.mod_one]
theorem make47 (w : World) (n : Nat) (h : n ≤ 1048576) : (Instr.makeSlice 22 (.int .i64 (n : Int)) (.int .i64 (n : Int))).run Tryz.prog w = .ok (.slice (some ⟨w.heap.size,0,none⟩) n n) (w.alloc (.cells (encI (List.replicate n 0)).toArray 3)):=by
 obtain ⟨i0,hi0,hz0,hzs,hzb⟩:=info_parts info3
 have:=run_make (P:=Tryz.prog) w 22 3 i0 (.int .i64 0) Tryz.underlying22 hi0 hz0 .i64 .i64 (n : Int) (n : Int) (by omega) (Int.le_refl _) (by rw [hzb];omega) (by omega)
 rw [this,hzs,Int.toNat_natCast,Nat.mul_one]
 have : madeCells (Value.int .i64 0).cells n = (encI (List.replicate n 0)).toArray:=by
  show madeCells #[Value.int .i64 0] n = _
  rw [madeI,encI,List.map_replicate]
 rw [this]
theorem make62 (w : World) (n : Nat) (h : n ≤ 1048576) : (Instr.makeSlice 24 (.int .i64 (n : Int)) (.int .i64 (n : Int))).run Tryz.prog w = .ok (.slice (some ⟨w.heap.size,0,none⟩) n n) (w.alloc (.cells (List.replicate n nilS).toArray 22)):=by
 obtain ⟨i0,hi0,hz0,hzs,hzb⟩:=info_parts info47
 have:=run_make (P:=Tryz.prog) w 24 22 i0 (.slice none 0 0) Tryz.underlying24 hi0 hz0 .i64 .i64 (n : Int) (n : Int) (by omega) (Int.le_refl _) (by rw [hzb];omega) (by omega)
 rw [this,hzs,Int.toNat_natCast,Nat.mul_one]
 have : madeCells (Value.slice none 0 0).cells n = (List.replicate n nilS).toArray:=by
  show madeCells #[Value.slice none 0 0] n = _
  rw [madeI]
  rfl
 rw [this]
structure OM (W : World) (g0 bl ba : Nat) (lack : List Int) (rows : List Value) (above : List (List Int)) : Prop where
 hl : W.heap[bl]? = some (.cells (encI lack).toArray 3 (0,0))
 ha : W.heap[ba]? = some (.cells rows.toArray 22 (0,0))
 len : rows.length = above.length
 own : ∀ i,i < above.length → OwnI W g0 (rowAt rows i) (above.getD i [])
 apart : ∀ i j k,i ≠ j → (rowAt rows i).ownBlock = some k → (rowAt rows j).ownBlock ≠ some k
 neL : ∀ i k,(rowAt rows i).ownBlock = some k → k ≠ bl
section
variable {w W W1 : World} {g0 bl ba : Nat} {lack : List Int} {rows : List Value} {above : List (List Int)}
theorem OM.lt (h : OM W g0 bl ba lack rows above) (i k : Nat) (hk : (rowAt rows i).ownBlock = some k) : k < W.heap.size:=by
 by_cases hi : i < above.length
 ·exact ((h.own i hi).lt k hk).2
 ·have : rowAt rows i = nilS:=by
   unfold rowAt
   rw [List.getD_eq_getElem?_getD,List.getElem?_eq_none (by rw [h.len];omega)]
   rfl
  rw [this] at hk
  cases hk
theorem OM.neA (h : OM W g0 bl ba lack rows above) (i k : Nat) (hk : (rowAt rows i).ownBlock = some k) : k ≠ ba:=by
 by_cases hi : i < above.length
 ·obtain ⟨cells,hc⟩:=own_typed (h.own i hi).row k hk
  rintro rfl
  rw [h.ha] at hc
  injection hc with hc
  injection hc with _ hc
  exact absurd hc (by decide)
 ·have : rowAt rows i = nilS:=by
   unfold rowAt
   rw [List.getD_eq_getElem?_getD,List.getElem?_eq_none (by rw [h.len];omega)]
   rfl
  rw [this] at hk
  cases hk
theorem OM.neAL (h : OM W g0 bl ba lack rows above) : ba ≠ bl:=by
 intro e
 have:=h.ha
 rw [e,h.hl] at this
 injection this with this
 injection this with _ this
 exact absurd this (by decide)
theorem OM.move (h : OM W g0 bl ba lack rows above) (hm : ∀ k,(k = bl ∨ k = ba ∨ ∃ i,(rowAt rows i).ownBlock = some k) → W1.heap[k]? = W.heap[k]?) : OM W1 g0 bl ba lack rows above :=
 ⟨(hm bl (.inl rfl)).trans h.hl,(hm ba (.inr (.inl rfl))).trans h.ha,h.len,fun i hi => (h.own i hi).move (fun k hk => hm k (.inr (.inr ⟨i,hk⟩))),h.apart,h.neL⟩
theorem OM.ltL (h : OM W g0 bl ba lack rows above) : bl < W.heap.size:=(Array.getElem?_eq_some_iff.1 h.hl).1
theorem OM.ltA (h : OM W g0 bl ba lack rows above) : ba < W.heap.size:=(Array.getElem?_eq_some_iff.1 h.ha).1
theorem OM.below (h : OM W g0 bl ba lack rows above) (hb : Below W.heap.size W W1) : OM W1 g0 bl ba lack rows above:=h.move (fun k hk => hb.block k (by
 rcases hk with rfl|rfl|⟨i,hi⟩
 ·exact h.ltL
 ·exact h.ltA
 ·exact h.lt i k hi))
theorem OM.setl (h : OM W g0 bl ba lack rows above) (x : Nat) (v : Int) : OM (W.setCell ⟨bl,x,none⟩ (.int .i64 v)) g0 bl ba (lack.set x v) rows above:=by
 have far : ∀ k,k ≠ bl → (W.setCell ⟨bl,x,none⟩ (.int .i64 v)).heap[k]? = W.heap[k]?:=fun k hk => Below.heap_setCell W ⟨bl,x,none⟩ _ k hk
 refine ⟨?_,(far ba h.neAL).trans h.ha,h.len,fun i hi => (h.own i hi).move (fun k hk => far k (h.neL i k hk)),h.apart,h.neL⟩
 have:=blk_set h.hl x (.int .i64 v)
 rw [this]
 simp [encI,List.map_set]
def Off (rows : List Value) (bl : Nat) (v : Value) : Prop:=∀ k,v.ownBlock = some k → k ≠ bl ∧ ∀ i,(rowAt rows i).ownBlock ≠ some k
theorem OM.app (h : OM W g0 bl ba lack rows above) {x : Nat} (hx : x < above.length) {y : Int} {v1 : Value} (hg : W.grownBy W1 (rowAt rows x).ownBlock) (ho : OwnI W1 g0 v1 (above.getD x [] ++ [y])) (hat : v1.ownBlock = (rowAt rows x).ownBlock ∨ ∃ b,v1.ownBlock = some b ∧ W.heap.size ≤ b) :
  OM (W1.setCell ⟨ba,x,none⟩ v1) g0 bl ba lack (rows.set x v1) (above.set x (above.getD x [] ++ [y])):=by
 have far : ∀ k,k ≠ ba → (W1.setCell ⟨ba,x,none⟩ v1).heap[k]? = W1.heap[k]?:=fun k hk => Below.heap_setCell W1 ⟨ba,x,none⟩ _ k hk
 have kept : ∀ k,k < W.heap.size → k ≠ ba → some k ≠ (rowAt rows x).ownBlock → (W1.setCell ⟨ba,x,none⟩ v1).heap[k]? = W.heap[k]?:=fun k h1 h2 h3 => (far k h2).trans (hg.block k h1 h3)
 have hxr : x < rows.length:=by rw [h.len];exact hx
 have v1ne : ∀ k,v1.ownBlock = some k → k ≠ bl ∧ k ≠ ba ∧ ∀ j,x ≠ j → (rowAt rows j).ownBlock ≠ some k:=by
  intro k hk
  rcases hat with h1|⟨b,h1,h2⟩
  ·rw [h1] at hk
   exact ⟨h.neL x k hk,h.neA x k hk,fun j hj => h.apart x j k hj hk⟩
  ·rw [h1] at hk
   injection hk with hk
   subst hk
   exact ⟨fun e => by have:=h.ltL;omega,fun e => by have:=h.ltA;omega,fun j hj e => by have:=h.lt j b e;omega⟩
 refine ⟨?_,?_,by simp [h.len],?_,?_,?_⟩
 ·exact (kept bl h.ltL (Ne.symm h.neAL) (fun e => h.neL x bl e.symm rfl)).trans h.hl
 ·have hb : W1.heap[ba]? = some (.cells rows.toArray 22 (0,0)):=(hg.block ba h.ltA (fun e => h.neA x ba e.symm rfl)).trans h.ha
  rw [blk_set hb x v1]
  simp
 ·intro i hi
  rw [List.length_set] at hi
  by_cases hix : x = i
  ·subst hix
   rw [rowAt_set_self hxr]
   have : (above.set x (above.getD x [] ++ [y])).getD x [] = above.getD x [] ++ [y]:=by simp [hx]
   rw [this]
   exact ho.move (fun k hk => far k (v1ne k hk).2.1)
  ·rw [rowAt_set_ne hix]
   have : (above.set x (above.getD x [] ++ [y])).getD i [] = above.getD i []:=by simp [List.getElem?_set_ne hix]
   rw [this]
   exact (h.own i hi).move (fun k hk => kept k (h.lt i k hk) (h.neA i k hk) (fun e => h.apart x i k hix e.symm hk))
 ·intro i j k hij hk
  by_cases hix : x = i
  ·subst hix
   rw [rowAt_set_self hxr] at hk
   rw [rowAt_set_ne hij]
   exact (v1ne k hk).2.2 j hij
  ·rw [rowAt_set_ne hix] at hk
   by_cases hjx : x = j
   ·subst hjx
    rw [rowAt_set_self hxr]
    intro e
    exact (v1ne k e).2.2 i hix hk
   ·rw [rowAt_set_ne hjx]
    exact h.apart i j k hij hk
 ·intro i k hk
  by_cases hix : x = i
  ·subst hix
   rw [rowAt_set_self hxr] at hk
   exact (v1ne k hk).1
  ·rw [rowAt_set_ne hix] at hk
   exact h.neL i k hk
theorem OM.app_off (h : OM W g0 bl ba lack rows above) {x : Nat} (hx : x < above.length) {v1 v : Value} (hg : W.grownBy W1 (rowAt rows x).ownBlock) (hat : v1.ownBlock = (rowAt rows x).ownBlock ∨ ∃ b,v1.ownBlock = some b ∧ W.heap.size ≤ b) {l : List Int} {g1 : Nat} (hv : OwnI W g1 v l) (ho : Off rows bl v) :
  OwnI (W1.setCell ⟨ba,x,none⟩ v1) g1 v l ∧ Off (rows.set x v1) bl v:=by
 have hxr : x < rows.length:=by rw [h.len];exact hx
 constructor
 ·refine hv.move (fun k hk => ?_)
  have hka : k ≠ ba:=by
   obtain ⟨cells,hc⟩:=own_typed hv.row k hk
   rintro rfl
   rw [h.ha] at hc
   injection hc with hc
   injection hc with _ hc
   exact absurd hc (by decide)
  exact (Below.heap_setCell W1 ⟨ba,x,none⟩ _ k hka).trans (hg.block k (hv.lt k hk).2 (fun e => (ho k hk).2 x e.symm))
 ·intro k hk
  refine ⟨(ho k hk).1,fun i => ?_⟩
  by_cases hix : x = i
  ·subst hix
   rw [rowAt_set_self hxr]
   rcases hat with h1|⟨b,h1,h2⟩
   ·rw [h1]
    exact (ho k hk).2 x
   ·rw [h1]
    intro e
    injection e with e
    have:=(hv.lt k hk).2
    omega
  ·rw [rowAt_set_ne hix]
   exact (ho k hk).2 i
theorem OwnI.setL {W : World} {g0 bl x : Nat} {v u : Value} {l : List Int} (h : OwnI W g0 v l) (hn : ∀ k,v.ownBlock = some k → k ≠ bl) : OwnI (W.setCell ⟨bl,x,none⟩ u) g0 v l:=h.move (fun k hk => Below.heap_setCell W ⟨bl,x,none⟩ _ k (hn k hk))
end
structure RS (W : World) (g0 bl ba rb : Nat) (rows : List Value) (v : Value) (l : List Int) : Prop where
 hr : W.heap[rb]? = some (.cells #[v] 22 (0,0))
 own : OwnI W g0 v l
 off : Off rows bl v
 neA : rb ≠ ba
 neL : rb ≠ bl
 neR : ∀ i,(rowAt rows i).ownBlock ≠ some rb
section
variable {w W W1 : World} {g0 bl ba rb : Nat} {lack : List Int} {rows : List Value} {above : List (List Int)} {v v1 u : Value} {l m outl : List Int}
theorem own_ne {t k : Nat} {cells : Array Value} (h : OwnI W g0 v l) (hk : v.ownBlock = some k) (hb : W.heap[k]? = some (.cells cells t (0,0))) (ht : t ≠ 3) : False:=by
 obtain ⟨cells',hc⟩:=own_typed h.row k hk
 rw [hb] at hc
 injection hc with hc
 injection hc with _ hc
 exact ht hc
theorem RS.neV (h : RS W g0 bl ba rb rows v l) : v.ownBlock ≠ some rb:=fun hk => own_ne h.own hk h.hr (by decide)
theorem OM.neV (h : OM W g0 bl ba lack rows above) (ho : OwnI W g0 v l) : v.ownBlock ≠ some ba:=fun hk => own_ne ho hk h.ha (by decide)
theorem OM.push (h : OM W g0 bl ba lack rows above) (r : RS W g0 bl ba rb rows v l) (hp : PushK W W1 g0 rb v v1) : OM W1 g0 bl ba lack rows above:=h.move (fun k hk => by
 rcases hk with rfl|rfl|⟨i,hi⟩
 ·exact hp.keep k h.ltL (Ne.symm r.neL) (fun e => (r.off k e.symm).1 rfl)
 ·exact hp.keep k h.ltA (Ne.symm r.neA) (fun e => h.neV r.own e.symm)
 ·exact hp.keep k (h.lt i k hi) (fun e => r.neR i (by rw [hi,e])) (fun e => (r.off k e.symm).2 i hi))
theorem RS.push (h : OM W g0 bl ba lack rows above) (r : RS W g0 bl ba rb rows v l) (hp : PushK W W1 g0 rb v v1) (hr : W1.heap[rb]? = some (.cells #[v1] 22 (0,0))) (ho : OwnI W1 g0 v1 m) : RS W1 g0 bl ba rb rows v1 m:=by
 refine ⟨hr,ho,fun k hk => ?_,r.neA,r.neL,r.neR⟩
 rcases hp.at_ with h1|⟨b,h1,h2⟩
 ·rw [h1] at hk
  exact r.off k hk
 ·rw [h1] at hk
  injection hk with hk
  subst hk
  exact ⟨fun e => by have:=h.ltL;omega,fun i e => by have:=h.lt i b e;omega⟩
theorem OM.setR (h : OM W g0 bl ba lack rows above) (r : RS W g0 bl ba rb rows v l) (x : Value) : OM (W.setCell ⟨rb,0,none⟩ x) g0 bl ba lack rows above:=h.move (fun k hk => Below.heap_setCell W ⟨rb,0,none⟩ _ k (by
 show k ≠ rb
 rcases hk with rfl|rfl|⟨i,hi⟩
 ·exact Ne.symm r.neL
 ·exact Ne.symm r.neA
 ·exact fun e => r.neR i (by rw [hi,e])))
theorem RS.setL (r : RS W g0 bl ba rb rows v l) (i : Nat) (x : Value) : RS (W.setCell ⟨bl,i,none⟩ x) g0 bl ba rb rows v l :=
 ⟨(Below.heap_setCell W ⟨bl,i,none⟩ _ rb r.neL).trans r.hr,r.own.setL (fun k hk => (r.off k hk).1),r.off,r.neA,r.neL,r.neR⟩
structure US (W : World) (g0 bl rb : Nat) (rows : List Value) (v u : Value) (outl : List Int) : Prop where
 own : OwnI W g0 u outl
 off : Off rows bl u
 neV : ∀ k,u.ownBlock = some k → v.ownBlock ≠ some k
theorem US.push (h : OM W g0 bl ba lack rows above) (r : RS W g0 bl ba rb rows v l) (s : US W g0 bl rb rows v u outl) (hp : PushK W W1 g0 rb v v1) : US W1 g0 bl rb rows v1 u outl:=by
 refine ⟨s.own.move (fun k hk => hp.keep k (s.own.lt k hk).2 ?_ (fun e => s.neV k hk e.symm)),s.off,fun k hk => ?_⟩
 ·rintro rfl
  exact own_ne s.own hk r.hr (by decide)
 ·rcases hp.at_ with h1|⟨b,h1,h2⟩
  ·rw [h1]
   exact s.neV k hk
  ·rw [h1]
   intro e
   injection e with e
   have:=(s.own.lt k hk).2
   omega
theorem US.setL (s : US W g0 bl rb rows v u outl) (i : Nat) (x : Value) : US (W.setCell ⟨bl,i,none⟩ x) g0 bl rb rows v u outl :=
 ⟨s.own.setL (fun k hk => (s.off k hk).1),s.off,s.neV⟩
theorem OM.grown (h : OM W g0 bl ba lack rows above) (hu : OwnI W g0 u outl) (hf : Off rows bl u) (hg : W.grownBy W1 u.ownBlock) : OM W1 g0 bl ba lack rows above:=h.move (fun k hk => by
 rcases hk with rfl|rfl|⟨i,hi⟩
 ·exact hg.block k h.ltL (fun e => (hf k e.symm).1 rfl)
 ·exact hg.block k h.ltA (fun e => h.neV hu e.symm)
 ·exact hg.block k (h.lt i k hi) (fun e => (hf k e.symm).2 i hi))
end
theorem RS.setR {W : World} {g0 bl ba rb : Nat} {rows : List Value} {v x : Value} {l m : List Int} (r : RS W g0 bl ba rb rows v l) (hx : OwnI W g0 x m) (hb : x.ownBlock = v.ownBlock) : RS (W.setCell ⟨rb,0,none⟩ x) g0 bl ba rb rows x m:=by
 refine ⟨blk_set r.hr 0 x,hx.move (fun k hk => Below.heap_setCell W ⟨rb,0,none⟩ _ k ?_),fun k hk => r.off k (hb ▸ hk),r.neA,r.neL,r.neR⟩
 rintro rfl
 exact r.neV (hb ▸ hk)
theorem US.setR {W : World} {g0 bl ba rb : Nat} {rows : List Value} {v u x : Value} {l outl : List Int} (r : RS W g0 bl ba rb rows v l) (s : US W g0 bl rb rows v u outl) (hb : x.ownBlock = v.ownBlock) : US (W.setCell ⟨rb,0,none⟩ x) g0 bl rb rows x u outl:=by
 refine ⟨s.own.move (fun k hk => Below.heap_setCell W ⟨rb,0,none⟩ _ k ?_),s.off,fun k hk => by rw [hb];exact s.neV k hk⟩
 rintro rfl
 exact own_ne s.own hk r.hr (by decide)
theorem RS.grown {W W1 : World} {g0 bl ba rb : Nat} {rows : List Value} {v u : Value} {l outl : List Int} (r : RS W g0 bl ba rb rows v l) (s : US W g0 bl rb rows v u outl) (hg : W.grownBy W1 u.ownBlock) : RS W1 g0 bl ba rb rows v l:=by
 refine ⟨(hg.block rb (Array.getElem?_eq_some_iff.1 r.hr).1 ?_).trans r.hr,r.own.move (fun k hk => hg.block k (r.own.lt k hk).2 ?_),r.off,r.neA,r.neL,r.neR⟩
 ·intro e
  exact own_ne s.own e.symm r.hr (by decide)
 ·intro e
  exact s.neV k e.symm hk
theorem US.grown {W W1 : World} {g0 bl ba rb : Nat} {lack : List Int} {above : List (List Int)} {rows : List Value} {v u u1 : Value} {l outl outl1 : List Int} (h : OM W g0 bl ba lack rows above) (r : RS W g0 bl ba rb rows v l) (s : US W g0 bl rb rows v u outl) (ho : OwnI W1 g0 u1 outl1) (hat : u1.ownBlock = u.ownBlock ∨ ∃ b,u1.ownBlock = some b ∧ W.heap.size ≤ b) : US W1 g0 bl rb rows v u1 outl1:=by
 rcases hat with h1|⟨b,h1,h2⟩
 ·exact ⟨ho,fun k hk => s.off k (h1 ▸ hk),fun k hk => s.neV k (h1 ▸ hk)⟩
 ·refine ⟨ho,fun k hk => ?_,fun k hk e => ?_⟩
  ·rw [h1] at hk
   injection hk with hk
   subst hk
   exact ⟨fun e => by have:=h.ltL;omega,fun i e => by have:=h.lt i b e;omega⟩
  ·rw [h1] at hk
   injection hk with hk
   have:=(r.own.lt k e).2
   omega
theorem goesC_ {P : Program} {ops : Array Oper} {Q : Exit → Act → World → Prop} {rest : List Oper} {oi : Oper} {a : Act} {w : World} (N : Option Tmp) (hd : oi.dst = N) (hg : oi.guard = none) {f : FuncId} {fn : Func} {t : Tmp} {ars : Array Operand} {ts : Array TypeId} (hf : P.funcs[f]? = some fn) (hname : (fn.name == "runtime.NumGoroutine") = false) (hb : fn.body.isSome = true) (args caps all : Array Value)
  (hop : oi.op = .call { callee:=.value (.tmp t),args:=ars,argTypes:=ts }) (hv : a.eval (.tmp t) = .func (.func f) #[] caps) (hargs : ars.map a.eval = args) (hall : args ++ caps = all)
  (h : Calls P f all w fun e w' => ∃ v,e = .returned v ∧ wpList P ops Q rest (a.put N v) w') : wpList P ops Q (oi :: rest) a w:=by
 refine wpList_plain hg fun K hK => ?_
 have he:=enters_ hf hname hb all w
 have hrun : (execOp a.eval oi).run P w = .ok (.enter f all) w:=by
  unfold execOp
  simp [hop,resolve,Deferred.ofValue,invoke,hv,hargs,hall,he]
 unfold Oper.wp
 rw [hrun,Oper.upon_enter]
 refine h.mono fun e w'' hh => ?_
 obtain ⟨v,rfl,hk⟩:=hh
 subst hd
 exact hK _ _ hk
theorem gate_value {P : Program} {ops : Array Oper} {rest : List Oper} {o : Oper} {a : Act} {Q : Exit → Act → World → Prop} {W : World} {t : Tmp} {ars : Array Operand} {ts : Array TypeId} (_ho : o.op = .call { callee:=.value (.tmp t),args:=ars,argTypes:=ts }) (h : wpList P ops Q (o :: rest) a W) : wpList P ops Q (o :: rest) a W:=h
end Go.Proofs.YtdmngdohlobogaaGreatDoor.Asc

