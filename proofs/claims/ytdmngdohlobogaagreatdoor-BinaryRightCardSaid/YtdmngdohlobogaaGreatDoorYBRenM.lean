import Derived.Test.YtdmngdohlobogaaGreatDoorYBCopy
import Derived.Test.YtdmngdohlobogaaGreatDoorYM41
namespace Go.Proofs.YtdmngdohlobogaaGreatDoor.Asc
open Go Go.RowKit Go.Proofs.YtdmngdohlobogaaGreatDoorW.PrintWords Go.Proofs.YtdmngdohlobogaaGreatDoorW.PrintLast Go.Proofs.YtdmngdohlobogaaGreatDoorW.PrintMore
set_option linter.unusedVariables false
set_option linter.unusedSimpArgs false
theorem setCell_self {W : World} {p : Addr} {v : Value} (h : W.cell? p = some v) : W.setCell p v = W:=by
 have hh : (W.setCell p v).heap = W.heap:=by
  unfold World.setCell
  dsimp only
  apply Array.ext_getElem?
  intro k
  rw [Array.getElem?_modify]
  by_cases hk : p.block = k
  ·subst hk
   rw [if_pos rfl]
   unfold World.cell? at h
   cases hb : W.heap[p.block]? with
   |none => rfl
   |some o =>
    rw [hb] at h
    cases o with
    |cells c t fr =>
     simp only at h
     split at h
     ·cases h
     ·rename_i hs
      simp only [Option.map_some,hs]
      congr 2
      apply Array.ext_getElem?
      intro j
      simp only [Bool.false_eq_true,if_false]
      rw [Array.getElem?_setIfInBounds]
      by_cases hj : p.off = j
      ·subst hj
       rw [if_pos rfl]
       have:=(Array.getElem?_eq_some_iff.1 h).1
       rw [if_pos this,h]
      ·rw [if_neg hj]
    |_ => rfl
  ·rw [if_neg hk]
 have e : W.setCell p v = { W with heap:=(W.setCell p v).heap }:=rfl
 rw [e,hh]
theorem set3_self {W : World} {g o0 o1 o2 : Nat} {v0 v1 v2 : Value} (h0 : W.cell? ⟨g,o0,none⟩ = some v0) (h1 : W.cell? ⟨g,o1,none⟩ = some v1) (h2 : W.cell? ⟨g,o2,none⟩ = some v2) : ((W.setCell ⟨g,o0,none⟩ v0).setCell ⟨g,o1,none⟩ v1).setCell ⟨g,o2,none⟩ v2 = W:=by
 rw [setCell_self h0,setCell_self h1,setCell_self h2]
theorem goesV_ {P : Program} {ops : Array Oper} {Q : Exit → Act → World → Prop} {oi : Oper} {N : Option Tmp} {a : Act} {w : World} {K : Act → World → Prop} {f : FuncId} {fn : Func} {t : Tmp} {ars : Array Operand} {ts : Array TypeId} (hf : P.funcs[f]? = some fn) (hname : (fn.name == "runtime.NumGoroutine") = false) (hb : fn.body.isSome = true) (args caps all : Array Value)
  (hw : Region.wanted oi (yielded ops a.tmps) = true) (hN : oi.dst = N) (hop : oi.op = .call { callee:=.value (.tmp t),args:=ars,argTypes:=ts }) (hv : a.eval (.tmp t) = .func (.func f) #[] caps) (hargs : ars.map a.eval = args) (hall : args ++ caps = all)
  (h : Calls P f all w fun e w' => ∃ v,e = .returned v ∧ K (a.put N v) w') : if Region.wanted oi (yielded ops a.tmps) = true then Oper.wp P oi a w K Q else K (a.put N undef) w:=by
 refine call_ f all hw hN ?_ h
 have he:=enters_ hf hname hb all w
 unfold execOp
 simp [hop,resolve,Deferred.ofValue,invoke,hv,hargs,hall,he]
theorem tol_zero (N : Nat) : tol N 0 = List.replicate (N + 1) 0:=by
 apply List.ext_getElem?
 intro v
 by_cases hv : v < N + 1
 ·rw [tol_get N 0 v hv,List.getElem?_replicate,if_pos hv]
  congr 1
  split
  ·omega
  ·rfl
 ·rw [List.getElem?_eq_none (by rw [tol_len];omega),List.getElem?_replicate,if_neg hv]
theorem OwnI.fresh {W : World} {g0 g : Nat} {l : List Int} (h : W.heap[g]? = some (.cells (encI l).toArray 3 (0,0))) (hg : g0 ≤ g) (hl : l.length ≤ 9223372036854775807) : OwnI W g0 (.slice (some ⟨g,0,none⟩) l.length l.length) l :=
 OwnI.of ⟨by simp [encI],.inr ⟨g,l.length,(encI l).toArray,rfl,hg,h,Nat.le_refl _,by simpa [maxLen] using hl,by simp [encI],by rw [Nat.mul_one];exact List.take_of_length_le (by simp [encI])⟩⟩
structure Bin (c : S65) : Prop where
 mx : c.f0 = (c.f1.length : Int) + c.f2.length + c.f8.length
 i1 : ∀ (i : Nat) (x : Int),c.f1[i]? = some x → x = 2 * ((i : Int) + 1)
 i2 : ∀ (i : Nat) (x : S108),c.f2[i]? = some x → x.f0 = 2 * (((c.f1.length + i : Nat) : Int) + 1)
 i8 : ∀ (i : Nat) (x : S125),c.f8[i]? = some x → x.f0 = 2 * (((c.f1.length + c.f2.length + i : Nat) : Int) + 1) ∧ 0 ≤ x.f2 ∧ x.f2 ≤ x.f1 ∧ x.f1 < x.f0
 u1 : ∀ x ∈ c.f1,0 ≤ x ∧ x ≤ 2 * c.f0 + 1
 u2 : ∀ x ∈ c.f2,0 ≤ x.f1 ∧ x.f1 ≤ 2 * c.f0 + 1
 r2 : ∀ x ∈ c.f2,0 ≤ x.f2 ∧ x.f2 ≤ 2 * c.f0 + 1
 u3 : ∀ x ∈ c.f3,0 ≤ x ∧ x ≤ 2 * c.f0 + 1
 u4 : ∀ x ∈ c.f4,0 ≤ x ∧ x ≤ 2 * c.f0 + 1
 u5 : ∀ x ∈ c.f5,0 ≤ x ∧ x ≤ 2 * c.f0 + 1
 u6 : ∀ r ∈ c.f6,∀ x ∈ r,0 ≤ x ∧ x ≤ 2 * c.f0 + 1
 u7 : ∀ x ∈ c.f7,0 ≤ x ∧ x ≤ 2 * c.f0 + 1
 od : orderF (byF c) c.f8 = (List.range c.f8.length).map (fun i : Nat => (i : Int))
theorem AllR.lower {W : World} {g0 g1 : Nat} {l : List Rw} (h : AllR W g0 l) (hg : g1 ≤ g0) : AllR W g1 l:=fun r hr => Kd.R_lower (h r hr) hg
theorem rowL_at {W : World} {g0 g n cap : Nat} {ok : Nat → Prop} {l : List S108} (h : k108.R 61 W g0 ok (.slice (some ⟨g,0,none⟩) n cap) l) (i : Nat) (hi : i < l.length) :
  W.cell? ⟨g,i * 3,none⟩ = some (.int .i64 l[i].f0) ∧ W.cell? ⟨g,i * 3 + 1,none⟩ = some (.int .i64 l[i].f1) ∧ W.cell? ⟨g,i * 3 + 2,none⟩ = some (.int .i64 l[i].f2) ∧ ∀ j,W.frozen? ⟨g,j,none⟩ = false:=by
 obtain ⟨ad,e,h0,h1,h2⟩:=C_latch_get (Kd.R_reads' h).2.2 i hi
 injection e with e
 subst e
 obtain ⟨cs,hb⟩:=Kd.R_typed h g rfl
 rw [add_off,Nat.zero_add] at h0 h1 h2
 exact ⟨h0,h1,h2,fun j => bF_ hb j⟩
theorem rowA_at {W : World} {g0 g n cap : Nat} {ok : Nat → Prop} {l : List S125} (h : k125.R 75 W g0 ok (.slice (some ⟨g,0,none⟩) n cap) l) (i : Nat) (hi : i < l.length) :
  W.cell? ⟨g,i * 3,none⟩ = some (.int .i64 l[i].f0) ∧ W.cell? ⟨g,i * 3 + 1,none⟩ = some (.int .i64 l[i].f1) ∧ W.cell? ⟨g,i * 3 + 2,none⟩ = some (.int .i64 l[i].f2) ∧ ∀ j,W.frozen? ⟨g,j,none⟩ = false:=by
 obtain ⟨ad,e,h0,h1,h2⟩:=C_and_get (Kd.R_reads' h).2.2 i hi
 injection e with e
 subst e
 obtain ⟨cs,hb⟩:=Kd.R_typed h g rfl
 rw [add_off,Nat.zero_add] at h0 h1 h2
 exact ⟨h0,h1,h2,fun j => bF_ hb j⟩
structure R2 (w W1 W : World) (c : S65) (g7 g8 gT g16 bO gj N : Nat) (cells : Array Value) (rs : List Rw) (v6 : Value) : Prop where
 below : Below W1.heap.size W1 W
 tt : TO W g7 g8 gT N N
 h16 : W.heap[g16]? = some (.cells #[.func (.func 40) #[] #[.pointer (some ⟨g7,0,none⟩)]] 82 (0,0))
 bo : W.heap[bO]? = some (.cells cells 29 (0,0))
 rows : AllR W W1.heap.size rs
 just : ∃ raws,JB W w.heap.size gj v6 c.f6 raws
 lj : W1.heap.size ≤ gj
 n7 : g7 < gj
 l : W1.heap.size ≤ bO
 lw : w.heap.size ≤ W1.heap.size
section
variable {w W1 W W2 : World} {c : S65} {g7 g8 gT g16 bO gj N : Nat} {cells cells' : Array Value} {rs : List Rw} {v6 : Value}
theorem R2.call (h : R2 w W1 W c g7 g8 gT g16 bO gj N cells rs v6) (hb : Below W.heap.size W W2) : R2 w W1 W2 c g7 g8 gT g16 bO gj N cells rs v6 :=
 ⟨h.below.trans (lower_ h.below.size hb),h.tt.below hb,blk_below h.h16 hb,blk_below h.bo hb,h.rows.below hb,by obtain ⟨raws,hj⟩:=h.just;exact ⟨raws,hj.below hb⟩,h.lj,h.n7,h.l,h.lw⟩
theorem TO.far {p : Nat} {t : TypeId} {cs : Array Value} {m : Nat} (h : TO W g7 g8 gT N m) (hb : W.heap[p]? = some (.cells cs t (0,0))) (h3 : t ≠ 3) (h22 : p ≠ g7) (i : Nat) (u : Value) : TO (W.setCell ⟨p,i,none⟩ u) g7 g8 gT N m :=
 ⟨blk_far h.c7 (Ne.symm h22) u,blk_far h.c8 (blk_ne h.c8 hb (Ne.symm h3)) u,blk_far h.cT (blk_ne h.cT hb (Ne.symm h3)) u,h.n78,h.n7T,h.n8T⟩
theorem R2.put (h : R2 w W1 W c g7 g8 gT g16 bO gj N cells rs v6) (i : Nat) (u : Value) (e : cells.setIfInBounds i u = cells') : R2 w W1 (W.setCell ⟨bO,i,none⟩ u) c g7 g8 gT g16 bO gj N cells' rs v6 :=
 ⟨h.below.setCell h.l _,h.tt.far h.bo (by decide) (blk_ne h.bo h.tt.c7 (by decide)) i u,blk_far h.h16 (blk_ne h.h16 h.bo (by decide)) u,blk_put h.bo i u e,h.rows.set29 h.bo u,by obtain ⟨raws,hj⟩:=h.just;exact ⟨raws,hj.set29 h.bo (Nat.le_trans h.lw h.l) u⟩,h.lj,h.n7,h.l,h.lw⟩
theorem R2.put22 {g n cap : Nat} (h : R2 w W1 W c g7 g8 gT g16 bO gj N cells rs (.slice (some ⟨g,0,none⟩) n cap)) {i : Nat} {x : List Int} (hx : c.f6[i]? = some x) {p : Option Addr × Nat × Nat} (hp : RawAt W x p) (hf : ∀ ad,p.1 = some ad → 0 < x.length → ad.block ≠ g ∧ FT W w.heap.size ad.block) :
  R2 w W1 (W.setCell ⟨g,i,none⟩ (.slice p.1 p.2.1 p.2.2)) c g7 g8 gT g16 bO gj N cells rs (.slice (some ⟨g,0,none⟩) n cap):=by
 obtain ⟨raws,hj⟩:=h.just
 obtain ⟨cs,hb⟩:=hj.blk
 have hgj : gj ≤ g:=Kd.R_base hj.own g rfl
 have hg : W1.heap.size ≤ g:=Nat.le_trans h.lj hgj
 have hg7 : g7 ≠ g:=by have:=h.n7;omega
 exact ⟨h.below.setCell hg _,h.tt.far hb (by decide) (Ne.symm hg7) i _,blk_far h.h16 (blk_ne h.h16 hb (by decide)) _,blk_far h.bo (blk_ne h.bo hb (by decide)) _,h.rows.set22 hb _,⟨_,hj.put hx hp hf⟩,h.lj,h.n7,h.l,h.lw⟩
theorem R2.row (h : R2 w W1 W c g7 g8 gT g16 bO gj N cells rs v6) {r : Rw} (hr : r.at W W1.heap.size) : R2 w W1 W c g7 g8 gT g16 bO gj N cells (r :: rs) v6:=⟨h.below,h.tt,h.h16,h.bo,h.rows.cons hr,h.just,h.lj,h.n7,h.l,h.lw⟩
end
end Go.Proofs.YtdmngdohlobogaaGreatDoor.Asc

