import Derived.Test.YtojepjkpnponoaaDoorFStim4
import Derived.Test.YtojepjkpnponoaaDoorFGBegun
set_option linter.unusedSimpArgs false
namespace Go.Proofs.YtojepjkpnponoaaDoor.Stim
open Go Go.RowKit Go.Proofs.YtojepjkpnponoaaDoorW.PrintWords Go.Proofs.YtojepjkpnponoaaDoorW.PrintLast Go.Proofs.YtojepjkpnponoaaDoorW.PrintMore
set_option linter.unusedVariables false
def stim_Read.f (a0 : ByteArray) (a1 : Int) (a2 : Int) : Option (Int × (List (S83)) × List Bool × (List (List Bool)) × Int × Int × Int) :=
 if a0.size > 262144 then some (0,[],[],[],0,0,2)
 else (stim_sized.f a1 a2).bind fun b =>
  if b = false then some (0,[],[],[],0,0,1)
  else (stim_reader_one.f (2 * a0.size + 100) a0 0 a1 a2).bind fun o =>
   if o.2.2.2.2.2.1 = 0 ∧ o.2.2.2.2.2.2.1 = 0 then
    (if o.2.2.2.2.2.2.2.2.1 < (a0.size : Int) then some (0,[],[],[],0,o.2.2.2.2.2.2.2.2.1,3)
    else some (o.1,o.2.1,o.2.2.1,o.2.2.2.1,o.2.2.2.2.1,0,0))
   else some (0,[],[],[],0,o.2.2.2.2.2.1,o.2.2.2.2.2.2.1)
def Out3 (W : World) (base : Nat) (v1 v2 v3 : Value) (q2 : List S83) (q3 : List Bool) (q4 : List (List Bool)) : Prop :=
 Kd.R k83 83 W base (fun _ => True) v1 q2 ∧ Kd.R Kd.bool 4 W base (fun _ => True) v2 q3 ∧ Kd.S (Kd.slice 4 Kd.bool) 23 W base (fun k_ => some k_ ≠ (v2 : Value).ownBlock) v3 q4
section
variable {W W1 : World} {base base' : Nat} {v1 v2 v3 : Value} {q2 : List S83} {q3 : List Bool} {q4 : List (List Bool)}
theorem Out3.lower (h : Out3 W base v1 v2 v3 q2 q3 q4) (hb : base' ≤ base) : Out3 W base' v1 v2 v3 q2 q3 q4:=⟨Kd.R_lower h.1 hb,Kd.R_lower h.2.1 hb,Kd.S_lower h.2.2 hb⟩
theorem Out3.below (h : Out3 W base v1 v2 v3 q2 q3 q4) (hb : Below W.heap.size W W1) : Out3 W1 base v1 v2 v3 q2 q3 q4:=⟨Kd.R_below h.1 hb,Kd.R_below h.2.1 hb,Kd.S_below h.2.2 hb⟩
theorem Out3.alloc (h : Out3 W base v1 v2 v3 q2 q3 q4) (o : Obj) : Out3 (W.alloc o) base v1 v2 v3 q2 q3 q4:=h.below (eA_ (Below.refl _ _) o)
theorem Out3.set (h : Out3 W base v1 v2 v3 q2 q3 q4) {g t : Nat} {cells : Array Value} (hb : W.heap[g]? = some (.cells cells t (0,0))) (ht : t = 28 ∨ t = 40) (j : Nat) (u : Value) : Out3 (W.setCell ⟨g,j,none⟩ u) base v1 v2 v3 q2 q3 q4:=by
 rcases ht with rfl|rfl <;> exact ⟨Kd.R_set h.1 hb (by decide) j u,Kd.R_set h.2.1 hb (by decide) j u,Kd.S_set h.2.2 hb (by decide) j u⟩
end
theorem far5 {w : World} {g b : Nat} {t : TypeId} {cs : Array Value} (h : w.heap[g]? = some (.cells cs t (0,0))) (hne : g ≠ b) (u0 u1 u2 u3 u4 : Value) :
  (((((w.setCell ⟨b,0,none⟩ u0).setCell ⟨b,1,none⟩ u1).setCell ⟨b,2,none⟩ u2).setCell ⟨b,3,none⟩ u3).setCell ⟨b,4,none⟩ u4).heap[g]? = some (.cells cs t (0,0)) :=
 blk_far (blk_far (blk_far (blk_far (blk_far h hne u0) hne u1) hne u2) hne u3) hne u4
theorem far5c {w : World} {g b j : Nat} {u : Value} (h : w.cell? ⟨g,j,none⟩ = some u) (hne : b ≠ g) (u0 u1 u2 u3 u4 : Value) :
  (((((w.setCell ⟨b,0,none⟩ u0).setCell ⟨b,1,none⟩ u1).setCell ⟨b,2,none⟩ u2).setCell ⟨b,3,none⟩ u3).setCell ⟨b,4,none⟩ u4).cell? ⟨g,j,none⟩ = some u:=by
 have hs : ∀ (W : World) (i : Nat) (v : Value),(W.setCell ⟨b,i,none⟩ v).cell? ⟨g,j,none⟩ = W.cell? ⟨g,j,none⟩:=fun W i v => World.cell?_of_block (Below.heap_setCell W ⟨b,i,none⟩ v g (fun e => hne e.symm))
 rw [hs,hs,hs,hs,hs,h]
theorem store7 {W w : World} {n : Nat} (k6 : W.heap[n]? = some (.cells #[.int .i64 0,.slice none 0 0,.slice none 0 0,.slice none 0 0,.int .i64 0] 28 (0,0))) (k7 : W.heap[n + 1]? = some (.cells #[.int .i64 0,.int .i64 0] 40 (0,0))) (hB : Below w.heap.size w W) (hn : w.heap.size ≤ n) (u0 u1 u2 u3 u4 y0 y1 : Value) :
  ((((((((W.setCell ⟨n,0,none⟩ u0).setCell ⟨n,1,none⟩ u1).setCell ⟨n,2,none⟩ u2).setCell ⟨n,3,none⟩ u3).setCell ⟨n,4,none⟩ u4).setCell ⟨n + 1,0,none⟩ y0).setCell ⟨n + 1,1,none⟩ y1).heap[n]? = some (.cells #[u0,u1,u2,u3,u4] 28 (0,0))) ∧
  ((((((((W.setCell ⟨n,0,none⟩ u0).setCell ⟨n,1,none⟩ u1).setCell ⟨n,2,none⟩ u2).setCell ⟨n,3,none⟩ u3).setCell ⟨n,4,none⟩ u4).setCell ⟨n + 1,0,none⟩ y0).setCell ⟨n + 1,1,none⟩ y1).heap[n + 1]? = some (.cells #[y0,y1] 40 (0,0))) ∧
  Below w.heap.size w (((((((W.setCell ⟨n,0,none⟩ u0).setCell ⟨n,1,none⟩ u1).setCell ⟨n,2,none⟩ u2).setCell ⟨n,3,none⟩ u3).setCell ⟨n,4,none⟩ u4).setCell ⟨n + 1,0,none⟩ y0).setCell ⟨n + 1,1,none⟩ y1) ∧
  (∀ base v1 v2 v3 q2 q3 q4,Out3 W base v1 v2 v3 q2 q3 q4 → Out3 (((((((W.setCell ⟨n,0,none⟩ u0).setCell ⟨n,1,none⟩ u1).setCell ⟨n,2,none⟩ u2).setCell ⟨n,3,none⟩ u3).setCell ⟨n,4,none⟩ u4).setCell ⟨n + 1,0,none⟩ y0).setCell ⟨n + 1,1,none⟩ y1) base v1 v2 v3 q2 q3 q4):=by
 have a0:=blk_put (cs':=#[u0,.slice none 0 0,.slice none 0 0,.slice none 0 0,.int .i64 0]) k6 0 u0 rfl
 have a1:=blk_put (cs':=#[u0,u1,.slice none 0 0,.slice none 0 0,.int .i64 0]) a0 1 u1 rfl
 have a2:=blk_put (cs':=#[u0,u1,u2,.slice none 0 0,.int .i64 0]) a1 2 u2 rfl
 have a3:=blk_put (cs':=#[u0,u1,u2,u3,.int .i64 0]) a2 3 u3 rfl
 have a4:=blk_put (cs':=#[u0,u1,u2,u3,u4]) a3 4 u4 rfl
 have hne : n ≠ n + 1:=by omega
 have b4:=far5 k7 hne.symm u0 u1 u2 u3 u4
 have b5:=blk_put (cs':=#[y0,.int .i64 0]) b4 0 y0 rfl
 have b6:=blk_put (cs':=#[y0,y1]) b5 1 y1 rfl
 refine ⟨blk_far (p:=⟨n + 1,1,none⟩) (blk_far (p:=⟨n + 1,0,none⟩) a4 hne _) hne _,b6,eS_ (eS_ (eS_ (eS_ (eS_ (eS_ (eS_ hB hn) hn) hn) hn) hn) (by omega)) (by omega),fun base v1 v2 v3 q2 q3 q4 h => ?_⟩
 exact Out3.set (Out3.set (Out3.set (Out3.set (Out3.set (Out3.set (Out3.set h k6 (.inl rfl) 0 _) a0 (.inl rfl) 1 _) a1 (.inl rfl) 2 _) a2 (.inl rfl) 3 _) a3 (.inl rfl) 4 _) b4 (.inr rfl) 0 _) b5 (.inr rfl) 1 _
set_option maxHeartbeats 4000000 in
set_option maxRecDepth 100000 in
theorem stim_Read.calls (a0 : ByteArray) (a1 : Int) (a2 : Int) (r1 : Int) (r2 : List (S83)) (r3 : List Bool) (r4 : List (List Bool)) (r5 : Int) (r6 : Int) (r7 : Int) (w : World) (hG : GV w) (h : stim_Read.f a0 a1 a2 = some (r1,r2,r3,r4,r5,r6,r7)) :
  Calls Tryd.prog 19 #[.string a0,.int .i64 a1,.int .i64 a2] w fun e w' => ∃ v1_ v2_ v3_ : Value,e = .returned (.tuple #[.agg #[.int .i64 r1,v1_,v2_,v3_,.int .i64 r5],.agg #[.int .i64 r6,.int .i64 r7]]) ∧ Kd.R k83 83 w' w.heap.size (fun _ => True) v1_ r2 ∧ Kd.R Kd.bool 4 w' w.heap.size (fun _ => True) v2_ r3 ∧ Kd.S (Kd.slice 4 Kd.bool) 23 w' w.heap.size (fun k_ => some k_ ≠ (v2_ : Value).ownBlock) v3_ r4 ∧ Below w.heap.size w w':=by
 have hu28:=Tryd.underlying28
 have hu40:=Tryd.underlying40
 have hu26:=Tryd.underlying26
 have HG:=A0_.mk hG
 clear hG
 unfold stim_Read.f at h
 have hbw : Below w.heap.size w ((w.alloc (.cells #[.int .i64 0,.slice none 0 0,.slice none 0 0,.slice none 0 0,.int .i64 0] 28)).alloc (.cells #[.int .i64 0,.int .i64 0] 40)):=eA_ (eA_ (Below.refl _ _) _) _
 have hk6 : ((w.alloc (.cells #[.int .i64 0,.slice none 0 0,.slice none 0 0,.slice none 0 0,.int .i64 0] 28)).alloc (.cells #[.int .i64 0,.int .i64 0] 40)).heap[w.heap.size]? = some (.cells #[.int .i64 0,.slice none 0 0,.slice none 0 0,.slice none 0 0,.int .i64 0] 28 (0,0)):=bA_ (blk_new w _) _
 have hk7 : ((w.alloc (.cells #[.int .i64 0,.slice none 0 0,.slice none 0 0,.slice none 0 0,.int .i64 0] 28)).alloc (.cells #[.int .i64 0,.int .i64 0] 40)).heap[w.heap.size + 1]? = some (.cells #[.int .i64 0,.int .i64 0] 40 (0,0)):=by have:=blk_new (w.alloc (.cells #[.int .i64 0,.slice none 0 0,.slice none 0 0,.slice none 0 0,.int .i64 0] 28)) (.cells #[.int .i64 0,.int .i64 0] 40);simpa using this
 have HBW:=A0_.mk hbw
 have HK6:=A0_.mk hk6
 have HK7:=A0_.mk hk7
 clear hbw hk6 hk7
 by_cases c1 : a0.size > 262144
 ·rw [if_pos c1] at h
  simp only [Option.some.injEq,Prod.mk.injEq] at h
  obtain ⟨rfl,rfl,rfl,rfl,rfl,rfl,rfl⟩:=h
  go_enter Tryd.func19,Tryd.ntmps19
  go_wp2_with (first|((with_reducible refine gate_callee (f:=46) rfl ?_);refine goesL_ (some 15) rfl rfl Tryd.func46 (by kernel_rfl) rfl #[.string a0,.int .i64 a1,.int .i64 a2] rfl (by (try simp only [List.map_toArray,List.map_cons,List.map_nil]);first|done|rfl) ?_;(with_reducible refine (stim_begun_long a0 a1 a2 _ c1).mono ?_);rintro e w2 ⟨rfl,hb⟩;refine ⟨_,rfl,?_⟩;have n6_:=A0_.mk ((hb.block _ (Array.getElem?_eq_some_iff.1 HK6.out).1).trans HK6.out);have n7_:=A0_.mk ((hb.block _ (Array.getElem?_eq_some_iff.1 HK7.out).1).trans HK7.out);have n8_:=A0_.mk (HBW.out.trans (hb.mono HBW.out.size));clear hb HBW HK6 HK7;have HK6:=n6_;have HK7:=n7_;have HBW:=n8_;clear n6_ n7_ n8_)|go_in)
  repeat (go_quiet (fail);try go_wp2)
  have hkl : w.heap.size + 1 < w2.heap.size:=(Array.getElem?_eq_some_iff.1 HK7.out).1
  have e0 : (w2.alloc (.cells #[.int .i64 0,.int .i64 2] 40)).cell? ⟨w2.heap.size,0,none⟩ = some (.int .i64 0):=(bC_ (blk_new w2 _) 0).trans rfl
  have e1 : (w2.alloc (.cells #[.int .i64 0,.int .i64 2] 40)).cell? ⟨w2.heap.size,1,none⟩ = some (.int .i64 2):=(bC_ (blk_new w2 _) 1).trans rfl
  refine wp_normal' ?_
  refine start_ (n:=4) (S:=fun w' => w'.cell? ⟨w2.heap.size,0,none⟩ = some (.int .i64 0) ∧ w'.cell? ⟨w2.heap.size,1,none⟩ = some (.int .i64 2)) (ds:=[3]) #[false,false,false,false] (by kernel_rfl) rfl rfl ⟨e0,e1⟩ (fun hHeld => ?_)
  refine pure_ (i:=0) (N:=some 21) (v:=?_) (a':=?_) #[true,false,false,false] rfl rfl (by kernel_rfl) (fun _ _ _ h => by cases h.1) (Or.inl ⟨by rfl,?_⟩) ?_ ?_
  rotate_left
  ·intro w'
   go_simp
   with_reducible rfl
  rotate_left
  ·simp only [Act.put,List.setIfInBounds_toArray,List.set_cons_zero,List.set_cons_succ]
   rfl
  refine take_ (i:=1) (N:=some 22) (v:=?_) (a':=?_) #[true,true,false,false] rfl rfl (by kernel_rfl) (fun _ _ _ h => by cases h.1) (Or.inl ⟨by rfl,?_⟩) hHeld ?_ ?_
  rotate_left
  ·intro w' s0
   obtain ⟨s1,s2⟩:=s0
   go_simp
   with_reducible rfl
  rotate_left
  ·simp only [Act.put,List.setIfInBounds_toArray,List.set_cons_zero,List.set_cons_succ]
   rfl
  have k6 : (w2.alloc (.cells #[.int .i64 0,.int .i64 2] 40)).drew.heap[w.heap.size]? = some (.cells #[.int .i64 0,.slice none 0 0,.slice none 0 0,.slice none 0 0,.int .i64 0] 28 (0,0)):=bA_ HK6.out _
  have k7 : (w2.alloc (.cells #[.int .i64 0,.int .i64 2] 40)).drew.heap[w.heap.size + 1]? = some (.cells #[.int .i64 0,.int .i64 0] 40 (0,0)):=bA_ HK7.out _
  have hbd : Below w.heap.size w (w2.alloc (.cells #[.int .i64 0,.int .i64 2] 40)).drew:=below_drew (eA_ HBW.out _)
  generalize (w2.alloc (.cells #[.int .i64 0,.int .i64 2] 40)).drew = wd at hHeld k6 k7 hbd ⊢
  have f0 : wd.cell? ⟨w.heap.size,0,none⟩ = some (.int .i64 0):=(bC_ k6 0).trans rfl
  have f1 : wd.cell? ⟨w.heap.size,1,none⟩ = some (.slice none 0 0):=(bC_ k6 1).trans rfl
  have f2 : wd.cell? ⟨w.heap.size,2,none⟩ = some (.slice none 0 0):=(bC_ k6 2).trans rfl
  have f3 : wd.cell? ⟨w.heap.size,3,none⟩ = some (.slice none 0 0):=(bC_ k6 3).trans rfl
  have f4 : wd.cell? ⟨w.heap.size,4,none⟩ = some (.int .i64 0):=(bC_ k6 4).trans rfl
  have g0:=bF_ k6 0
  have g1:=bF_ k6 1
  have g2:=bF_ k6 2
  have g3:=bF_ k6 3
  have g4:=bF_ k6 4
  refine one_ (i:=2) (N:=none) #[true,true,true,false] rfl rfl (by kernel_rfl) (by decide) (fun K hK => ?_)
  refine skip_ (w1:=((((wd.setCell ⟨w.heap.size,0,none⟩ (.int .i64 0)).setCell ⟨w.heap.size,1,none⟩ (.slice none 0 0)).setCell ⟨w.heap.size,2,none⟩ (.slice none 0 0)).setCell ⟨w.heap.size,3,none⟩ (.slice none 0 0)).setCell ⟨w.heap.size,4,none⟩ (.int .i64 0)) rfl rfl ?_ ?_
  ·go_simp
  have k6' : (((((wd.setCell ⟨w.heap.size,0,none⟩ (.int .i64 0)).setCell ⟨w.heap.size,1,none⟩ (.slice none 0 0)).setCell ⟨w.heap.size,2,none⟩ (.slice none 0 0)).setCell ⟨w.heap.size,3,none⟩ (.slice none 0 0)).setCell ⟨w.heap.size,4,none⟩ (.int .i64 0)).heap[w.heap.size]? = some (.cells #[.int .i64 0,.slice none 0 0,.slice none 0 0,.slice none 0 0,.int .i64 0] 28 (0,0)):=blk_put (cs:=#[.int .i64 0,.slice none 0 0,.slice none 0 0,.slice none 0 0,.int .i64 0]) (blk_put (cs:=#[.int .i64 0,.slice none 0 0,.slice none 0 0,.slice none 0 0,.int .i64 0]) (blk_put (cs:=#[.int .i64 0,.slice none 0 0,.slice none 0 0,.slice none 0 0,.int .i64 0]) (blk_put (cs:=#[.int .i64 0,.slice none 0 0,.slice none 0 0,.slice none 0 0,.int .i64 0]) (blk_put (cs:=#[.int .i64 0,.slice none 0 0,.slice none 0 0,.slice none 0 0,.int .i64 0]) k6 0 _ rfl) 1 _ rfl) 2 _ rfl) 3 _ rfl) 4 _ rfl
  have k7' : (((((wd.setCell ⟨w.heap.size,0,none⟩ (.int .i64 0)).setCell ⟨w.heap.size,1,none⟩ (.slice none 0 0)).setCell ⟨w.heap.size,2,none⟩ (.slice none 0 0)).setCell ⟨w.heap.size,3,none⟩ (.slice none 0 0)).setCell ⟨w.heap.size,4,none⟩ (.int .i64 0)).heap[w.heap.size + 1]? = some (.cells #[.int .i64 0,.int .i64 0] 40 (0,0)):=far5 k7 (by omega) _ _ _ _ _
  have kc:=fun j (u : Value) (hu : wd.cell? ⟨w2.heap.size,j,none⟩ = some u) => far5c hu (show w.heap.size ≠ w2.heap.size by omega) (.int .i64 0) (.slice none 0 0) (.slice none 0 0) (.slice none 0 0) (.int .i64 0)
  have hbd':=eS_ (eS_ (eS_ (eS_ (eS_ hbd (Nat.le_refl w.heap.size) (j:=0) (v:=.int .i64 0)) (Nat.le_refl _) (j:=1) (v:=.slice none 0 0)) (Nat.le_refl _) (j:=2) (v:=.slice none 0 0)) (Nat.le_refl _) (j:=3) (v:=.slice none 0 0)) (Nat.le_refl _) (j:=4) (v:=.int .i64 0)
  generalize ((((wd.setCell ⟨w.heap.size,0,none⟩ (.int .i64 0)).setCell ⟨w.heap.size,1,none⟩ (.slice none 0 0)).setCell ⟨w.heap.size,2,none⟩ (.slice none 0 0)).setCell ⟨w.heap.size,3,none⟩ (.slice none 0 0)).setCell ⟨w.heap.size,4,none⟩ (.int .i64 0) = we at k6' k7' kc hbd' ⊢
  refine hK.out _ _ ⟨kc _ _ hHeld.1,kc _ _ hHeld.2⟩ (fun hHeld2 => ?_)
  clear hK K
  have f5 : we.cell? ⟨w.heap.size + 1,0,none⟩ = some (.int .i64 0):=(bC_ k7' 0).trans rfl
  have f6 : we.cell? ⟨w.heap.size + 1,1,none⟩ = some (.int .i64 0):=(bC_ k7' 1).trans rfl
  have g5:=bF_ k7' 0
  have g6:=bF_ k7' 1
  refine last_ (i:=3) (N:=none) #[true,true,true,true] rfl rfl (by kernel_rfl) (by decide) (fun K hK => ?_)
  refine skip_ (w1:=(we.setCell ⟨w.heap.size + 1,0,none⟩ (.int .i64 0)).setCell ⟨w.heap.size + 1,1,none⟩ (.int .i64 2)) rfl rfl ?_ ?_
  ·go_simp
  refine hK.out _ _ ?_
  clear hK K
  have k6e:=blk_far (p:=⟨w.heap.size + 1,1,none⟩) (blk_far (p:=⟨w.heap.size + 1,0,none⟩) k6' (show w.heap.size ≠ w.heap.size + 1 by omega) (.int .i64 0)) (show w.heap.size ≠ w.heap.size + 1 by omega) (.int .i64 2)
  have k7e:=blk_put (cs:=#[.int .i64 0,.int .i64 0]) (blk_put (cs:=#[.int .i64 0,.int .i64 0]) k7' 0 (.int .i64 0) rfl) 1 (.int .i64 2) rfl
  have hbe:=eS_ (eS_ hbd' (show w.heap.size ≤ w.heap.size + 1 by omega) (j:=0) (v:=.int .i64 0)) (show w.heap.size ≤ w.heap.size + 1 by omega) (j:=1) (v:=.int .i64 2)
  refine done_ (by kernel_rfl) ⟨rfl,?_⟩
  rename_i hKK
  refine hKK _ _ ?_
  go_wp2
  refine bodyPost_ret (results_cc rfl _ _ w.heap.size (w.heap.size + 1) 28 40 #[.int .i64 0,.slice none 0 0,.slice none 0 0,.slice none 0 0,.int .i64 0] #[.int .i64 0,.int .i64 2] (0,0) (0,0) _ _ rfl k6e Tryd.underlying28 rfl (by kernel_rfl) rfl k7e Tryd.underlying40 rfl (by kernel_rfl)) rfl ?_
  exact ⟨_,_,_,rfl,Kd.R_nil _ _ _ _ _,Kd.R_nil _ _ _ _ _,Kd.S_nil _ _ _ _ _,hbe⟩
 ·rw [if_neg c1] at h
  obtain ⟨b,hz,h⟩:=Option.bind_eq_some_iff.1 h
  cases b with
  |false =>
   rw [if_pos rfl] at h
   simp only [Option.some.injEq,Prod.mk.injEq] at h
   obtain ⟨rfl,rfl,rfl,rfl,rfl,rfl,rfl⟩:=h
   go_enter Tryd.func19,Tryd.ntmps19
   go_wp2_with (first|((with_reducible refine gate_callee (f:=46) rfl ?_);refine goesL_ (some 15) rfl rfl Tryd.func46 (by kernel_rfl) rfl #[.string a0,.int .i64 a1,.int .i64 a2] rfl (by (try simp only [List.map_toArray,List.map_cons,List.map_nil]);first|done|rfl) ?_;(with_reducible refine (stim_begun_range a0 a1 a2 _ c1 hz).mono ?_);rintro e w2 ⟨rfl,hb⟩;refine ⟨_,rfl,?_⟩;have n6_:=A0_.mk ((hb.block _ (Array.getElem?_eq_some_iff.1 HK6.out).1).trans HK6.out);have n7_:=A0_.mk ((hb.block _ (Array.getElem?_eq_some_iff.1 HK7.out).1).trans HK7.out);have n8_:=A0_.mk (HBW.out.trans (hb.mono HBW.out.size));clear hb HBW HK6 HK7;have HK6:=n6_;have HK7:=n7_;have HBW:=n8_;clear n6_ n7_ n8_)|go_in)
   repeat (go_quiet (fail);try go_wp2)
   have hkl : w.heap.size + 1 < w2.heap.size:=(Array.getElem?_eq_some_iff.1 HK7.out).1
   have e0 : (w2.alloc (.cells #[.int .i64 0,.int .i64 1] 40)).cell? ⟨w2.heap.size,0,none⟩ = some (.int .i64 0):=(bC_ (blk_new w2 _) 0).trans rfl
   have e1 : (w2.alloc (.cells #[.int .i64 0,.int .i64 1] 40)).cell? ⟨w2.heap.size,1,none⟩ = some (.int .i64 1):=(bC_ (blk_new w2 _) 1).trans rfl
   refine wp_normal' ?_
   refine start_ (n:=4) (S:=fun w' => w'.cell? ⟨w2.heap.size,0,none⟩ = some (.int .i64 0) ∧ w'.cell? ⟨w2.heap.size,1,none⟩ = some (.int .i64 1)) (ds:=[3]) #[false,false,false,false] (by kernel_rfl) rfl rfl ⟨e0,e1⟩ (fun hHeld => ?_)
   refine pure_ (i:=0) (N:=some 21) (v:=?_) (a':=?_) #[true,false,false,false] rfl rfl (by kernel_rfl) (fun _ _ _ h => by cases h.1) (Or.inl ⟨by rfl,?_⟩) ?_ ?_
   rotate_left
   ·intro w'
    go_simp
    with_reducible rfl
   rotate_left
   ·simp only [Act.put,List.setIfInBounds_toArray,List.set_cons_zero,List.set_cons_succ]
    rfl
   refine take_ (i:=1) (N:=some 22) (v:=?_) (a':=?_) #[true,true,false,false] rfl rfl (by kernel_rfl) (fun _ _ _ h => by cases h.1) (Or.inl ⟨by rfl,?_⟩) hHeld ?_ ?_
   rotate_left
   ·intro w' s0
    obtain ⟨s1,s2⟩:=s0
    go_simp
    with_reducible rfl
   rotate_left
   ·simp only [Act.put,List.setIfInBounds_toArray,List.set_cons_zero,List.set_cons_succ]
    rfl
   have k6 : (w2.alloc (.cells #[.int .i64 0,.int .i64 1] 40)).drew.heap[w.heap.size]? = some (.cells #[.int .i64 0,.slice none 0 0,.slice none 0 0,.slice none 0 0,.int .i64 0] 28 (0,0)):=bA_ HK6.out _
   have k7 : (w2.alloc (.cells #[.int .i64 0,.int .i64 1] 40)).drew.heap[w.heap.size + 1]? = some (.cells #[.int .i64 0,.int .i64 0] 40 (0,0)):=bA_ HK7.out _
   have hbd : Below w.heap.size w (w2.alloc (.cells #[.int .i64 0,.int .i64 1] 40)).drew:=below_drew (eA_ HBW.out _)
   generalize (w2.alloc (.cells #[.int .i64 0,.int .i64 1] 40)).drew = wd at hHeld k6 k7 hbd ⊢
   have f0 : wd.cell? ⟨w.heap.size,0,none⟩ = some (.int .i64 0):=(bC_ k6 0).trans rfl
   have f1 : wd.cell? ⟨w.heap.size,1,none⟩ = some (.slice none 0 0):=(bC_ k6 1).trans rfl
   have f2 : wd.cell? ⟨w.heap.size,2,none⟩ = some (.slice none 0 0):=(bC_ k6 2).trans rfl
   have f3 : wd.cell? ⟨w.heap.size,3,none⟩ = some (.slice none 0 0):=(bC_ k6 3).trans rfl
   have f4 : wd.cell? ⟨w.heap.size,4,none⟩ = some (.int .i64 0):=(bC_ k6 4).trans rfl
   have g0:=bF_ k6 0
   have g1:=bF_ k6 1
   have g2:=bF_ k6 2
   have g3:=bF_ k6 3
   have g4:=bF_ k6 4
   refine one_ (i:=2) (N:=none) #[true,true,true,false] rfl rfl (by kernel_rfl) (by decide) (fun K hK => ?_)
   refine skip_ (w1:=((((wd.setCell ⟨w.heap.size,0,none⟩ (.int .i64 0)).setCell ⟨w.heap.size,1,none⟩ (.slice none 0 0)).setCell ⟨w.heap.size,2,none⟩ (.slice none 0 0)).setCell ⟨w.heap.size,3,none⟩ (.slice none 0 0)).setCell ⟨w.heap.size,4,none⟩ (.int .i64 0)) rfl rfl ?_ ?_
   ·go_simp
   have k6' : (((((wd.setCell ⟨w.heap.size,0,none⟩ (.int .i64 0)).setCell ⟨w.heap.size,1,none⟩ (.slice none 0 0)).setCell ⟨w.heap.size,2,none⟩ (.slice none 0 0)).setCell ⟨w.heap.size,3,none⟩ (.slice none 0 0)).setCell ⟨w.heap.size,4,none⟩ (.int .i64 0)).heap[w.heap.size]? = some (.cells #[.int .i64 0,.slice none 0 0,.slice none 0 0,.slice none 0 0,.int .i64 0] 28 (0,0)):=blk_put (cs:=#[.int .i64 0,.slice none 0 0,.slice none 0 0,.slice none 0 0,.int .i64 0]) (blk_put (cs:=#[.int .i64 0,.slice none 0 0,.slice none 0 0,.slice none 0 0,.int .i64 0]) (blk_put (cs:=#[.int .i64 0,.slice none 0 0,.slice none 0 0,.slice none 0 0,.int .i64 0]) (blk_put (cs:=#[.int .i64 0,.slice none 0 0,.slice none 0 0,.slice none 0 0,.int .i64 0]) (blk_put (cs:=#[.int .i64 0,.slice none 0 0,.slice none 0 0,.slice none 0 0,.int .i64 0]) k6 0 _ rfl) 1 _ rfl) 2 _ rfl) 3 _ rfl) 4 _ rfl
   have k7' : (((((wd.setCell ⟨w.heap.size,0,none⟩ (.int .i64 0)).setCell ⟨w.heap.size,1,none⟩ (.slice none 0 0)).setCell ⟨w.heap.size,2,none⟩ (.slice none 0 0)).setCell ⟨w.heap.size,3,none⟩ (.slice none 0 0)).setCell ⟨w.heap.size,4,none⟩ (.int .i64 0)).heap[w.heap.size + 1]? = some (.cells #[.int .i64 0,.int .i64 0] 40 (0,0)):=far5 k7 (by omega) _ _ _ _ _
   have kc:=fun j (u : Value) (hu : wd.cell? ⟨w2.heap.size,j,none⟩ = some u) => far5c hu (show w.heap.size ≠ w2.heap.size by omega) (.int .i64 0) (.slice none 0 0) (.slice none 0 0) (.slice none 0 0) (.int .i64 0)
   have hbd':=eS_ (eS_ (eS_ (eS_ (eS_ hbd (Nat.le_refl w.heap.size) (j:=0) (v:=.int .i64 0)) (Nat.le_refl _) (j:=1) (v:=.slice none 0 0)) (Nat.le_refl _) (j:=2) (v:=.slice none 0 0)) (Nat.le_refl _) (j:=3) (v:=.slice none 0 0)) (Nat.le_refl _) (j:=4) (v:=.int .i64 0)
   generalize ((((wd.setCell ⟨w.heap.size,0,none⟩ (.int .i64 0)).setCell ⟨w.heap.size,1,none⟩ (.slice none 0 0)).setCell ⟨w.heap.size,2,none⟩ (.slice none 0 0)).setCell ⟨w.heap.size,3,none⟩ (.slice none 0 0)).setCell ⟨w.heap.size,4,none⟩ (.int .i64 0) = we at k6' k7' kc hbd' ⊢
   refine hK.out _ _ ⟨kc _ _ hHeld.1,kc _ _ hHeld.2⟩ (fun hHeld2 => ?_)
   clear hK K
   have f5 : we.cell? ⟨w.heap.size + 1,0,none⟩ = some (.int .i64 0):=(bC_ k7' 0).trans rfl
   have f6 : we.cell? ⟨w.heap.size + 1,1,none⟩ = some (.int .i64 0):=(bC_ k7' 1).trans rfl
   have g5:=bF_ k7' 0
   have g6:=bF_ k7' 1
   refine last_ (i:=3) (N:=none) #[true,true,true,true] rfl rfl (by kernel_rfl) (by decide) (fun K hK => ?_)
   refine skip_ (w1:=(we.setCell ⟨w.heap.size + 1,0,none⟩ (.int .i64 0)).setCell ⟨w.heap.size + 1,1,none⟩ (.int .i64 1)) rfl rfl ?_ ?_
   ·go_simp
   refine hK.out _ _ ?_
   clear hK K
   have k6e:=blk_far (p:=⟨w.heap.size + 1,1,none⟩) (blk_far (p:=⟨w.heap.size + 1,0,none⟩) k6' (show w.heap.size ≠ w.heap.size + 1 by omega) (.int .i64 0)) (show w.heap.size ≠ w.heap.size + 1 by omega) (.int .i64 1)
   have k7e:=blk_put (cs:=#[.int .i64 0,.int .i64 0]) (blk_put (cs:=#[.int .i64 0,.int .i64 0]) k7' 0 (.int .i64 0) rfl) 1 (.int .i64 1) rfl
   have hbe:=eS_ (eS_ hbd' (show w.heap.size ≤ w.heap.size + 1 by omega) (j:=0) (v:=.int .i64 0)) (show w.heap.size ≤ w.heap.size + 1 by omega) (j:=1) (v:=.int .i64 1)
   refine done_ (by kernel_rfl) ⟨rfl,?_⟩
   rename_i hKK
   refine hKK _ _ ?_
   go_wp2
   refine bodyPost_ret (results_cc rfl _ _ w.heap.size (w.heap.size + 1) 28 40 #[.int .i64 0,.slice none 0 0,.slice none 0 0,.slice none 0 0,.int .i64 0] #[.int .i64 0,.int .i64 1] (0,0) (0,0) _ _ rfl k6e Tryd.underlying28 rfl (by kernel_rfl) rfl k7e Tryd.underlying40 rfl (by kernel_rfl)) rfl ?_
   exact ⟨_,_,_,rfl,Kd.R_nil _ _ _ _ _,Kd.R_nil _ _ _ _ _,Kd.S_nil _ _ _ _ _,hbe⟩
  |true =>
   rw [if_neg (by decide)] at h
   obtain ⟨⟨q1,q2,q3,q4,q5,q6,q7,q8,q9,q10,q11⟩,ho,h⟩:=Option.bind_eq_some_iff.1 h
   dsimp only at h
   have HO:=A0_.mk ho
   clear ho
   go_enter Tryd.func19,Tryd.ntmps19
   go_upto_region 2 with (first|((with_reducible refine gate_callee (f:=46) rfl ?_);refine goesL_ (some 15) rfl rfl Tryd.func46 (by kernel_rfl) rfl #[.string a0,.int .i64 a1,.int .i64 a2] rfl (by (try simp only [List.map_toArray,List.map_cons,List.map_nil]);first|done|rfl) ?_;(with_reducible refine (stim_begun_made a0 a1 a2 _ c1 hz).mono ?_);rintro e w2 ⟨g,rfl,hI,hb⟩;refine ⟨_,rfl,?_⟩;have n6_:=A0_.mk ((hb.block _ (Array.getElem?_eq_some_iff.1 HK6.out).1).trans HK6.out);have n7_:=A0_.mk ((hb.block _ (Array.getElem?_eq_some_iff.1 HK7.out).1).trans HK7.out);have n8_:=A0_.mk (HBW.out.trans (hb.mono HBW.out.size));have n9_:=A0_.mk hI;clear hb hI HBW HK6 HK7;have HK6:=n6_;have HK7:=n7_;have HBW:=n8_;have HI:=n9_;clear n6_ n7_ n8_ n9_))
   have HW0 : Below w.heap.size w (w2.alloc (.cells #[.int .i64 0,.int .i64 0] 40)):=eA_ HBW.out _
   have hI2 : IsS98 w (w2.alloc (.cells #[.int .i64 0,.int .i64 0] 40)) g a0 0 a1 a2:=⟨bA_ HI.out.1 _,Nat.le_trans (by simp only [World.size_alloc];omega) HI.out.2⟩
   have k6 : (w2.alloc (.cells #[.int .i64 0,.int .i64 0] 40)).heap[w.heap.size]? = some (.cells #[.int .i64 0,.slice none 0 0,.slice none 0 0,.slice none 0 0,.int .i64 0] 28 (0,0)):=bA_ HK6.out _
   have k7 : (w2.alloc (.cells #[.int .i64 0,.int .i64 0] 40)).heap[w.heap.size + 1]? = some (.cells #[.int .i64 0,.int .i64 0] 40 (0,0)):=bA_ HK7.out _
   have k9 : (w2.alloc (.cells #[.int .i64 0,.int .i64 0] 40)).heap[w2.heap.size]? = some (.cells #[.int .i64 0,.int .i64 0] 40 (0,0)):=blk_new w2 _
   have hn9 : w.heap.size + 1 < w2.heap.size:=(Array.getElem?_eq_some_iff.1 HK7.out).1
   clear HI HK6 HK7 HBW
   generalize w2.heap.size = g9 at k9 hn9 ⊢
   generalize w2.alloc (.cells #[.int .i64 0,.int .i64 0] 40) = w3 at HW0 hI2 k6 k7 k9 ⊢
   have f0 : w3.cell? ⟨g9,0,none⟩ = some (.int .i64 0):=(bC_ k9 0).trans rfl
   have f1 : w3.cell? ⟨g9,1,none⟩ = some (.int .i64 0):=(bC_ k9 1).trans rfl
   have HI:=A0_.mk hI2
   have HK6:=A0_.mk k6
   have HK7:=A0_.mk k7
   have HK9:=A0_.mk k9
   have HN9:=A0_.mk hn9
   have HBW:=A0_.mk HW0
   clear hI2 k6 k7 k9 hn9 HW0
   go_upto_region 5 with (first|((with_reducible refine gate_callee (f:=47) rfl ?_);refine goesL_ (some 25) rfl rfl Tryd.func47 (by kernel_rfl) rfl #[.pointer (some ⟨g,0,none⟩)] rfl (by (try simp only [List.map_toArray,List.map_cons,List.map_nil]);first|done|rfl) ?_;(with_reducible refine (stim_reader_one.calls (2 * a0.size + 100) g a0 0 a1 a2 q1 q2 q3 q4 q5 q6 q7 q8 q9 q10 q11 w w3 HG.out HI.out HBW.out HO.out).mono ?_);rintro e w4 ⟨v1,v2,v3,rfl,ho1,ho2,ho3,hI3,hb3,hk⟩;obtain ⟨A1,n1,rfl⟩:=Kd.R_slice ho1;obtain ⟨A2,n2,rfl⟩:=Kd.R_slice ho2;obtain ⟨A3,n3,rfl⟩:=Kd.R_slice (Kd.S_R ho3);have n6_:=A0_.mk ((hk.2 _ (Array.getElem?_eq_some_iff.1 HK6.out).1 (fun e => by have:=HI.out.1;rw [← e,HK6.out] at this;cases this) (by simp)).trans HK6.out);have n7_:=A0_.mk ((hk.2 _ (Array.getElem?_eq_some_iff.1 HK7.out).1 (fun e => by have:=HI.out.1;rw [← e,HK7.out] at this;cases this) (by simp)).trans HK7.out);have n9_:=A0_.mk ((hk.2 _ (Array.getElem?_eq_some_iff.1 HK9.out).1 (fun e => by have:=HI.out.1;rw [← e,HK9.out] at this;cases this) (by simp)).trans HK9.out);have no_:=A0_.mk (Out3.lower ⟨ho1,ho2,ho3⟩ HBW.out.size);clear HBW HK6 HK7 HK9 HI;have HK6:=n6_;have HK7:=n7_;have HK9:=n9_;have HO3:=no_;have HI:=A0_.mk hI3;have HBW:=A0_.mk hb3;clear n6_ n7_ n9_ no_ hI3 hb3 hk ho1 ho2 ho3;have f0 : w4.cell? ⟨g9,0,none⟩ = some (.int .i64 0):=(bC_ HK9.out 0).trans rfl;have f1 : w4.cell? ⟨g9,1,none⟩ = some (.int .i64 0):=(bC_ HK9.out 1).trans rfl;have g0:=bF_ HK9.out 0;have g1:=bF_ HK9.out 1;have hlt9 : g9 < w4.heap.size:=(Array.getElem?_eq_some_iff.1 HK9.out).1;refine ⟨_,rfl,?_⟩))
   have hn9g : g ≠ g9:=IsS98.ne_blk HI.out HK9.out (by decide)
   have b9' : ((w4.setCell ⟨g9,0,none⟩ (.int .i64 q6)).setCell ⟨g9,1,none⟩ (.int .i64 q7)).heap[g9]? = some (.cells #[.int .i64 q6,.int .i64 q7] 40 (0,0)):=blk_put (cs:=#[.int .i64 q6,.int .i64 0]) (blk_put (cs:=#[.int .i64 0,.int .i64 0]) HK9.out 0 _ rfl) 1 _ rfl
   have hn:=HN9.out
   have b6 : (((w4.setCell ⟨g9,0,none⟩ (.int .i64 q6)).setCell ⟨g9,1,none⟩ (.int .i64 q7)).alloc (.cells #[.int .i64 q1,.slice A1 q2.length n1,.slice A2 q3.length n2,.slice A3 q4.length n3,.int .i64 q5] 28)).heap[w.heap.size]? = some (.cells #[.int .i64 0,.slice none 0 0,.slice none 0 0,.slice none 0 0,.int .i64 0] 28 (0,0)):=bA_ (blk_far (p:=⟨g9,1,none⟩) (blk_far (p:=⟨g9,0,none⟩) HK6.out (show w.heap.size ≠ g9 by omega) _) (show w.heap.size ≠ g9 by omega) _) _
   have b7 : (((w4.setCell ⟨g9,0,none⟩ (.int .i64 q6)).setCell ⟨g9,1,none⟩ (.int .i64 q7)).alloc (.cells #[.int .i64 q1,.slice A1 q2.length n1,.slice A2 q3.length n2,.slice A3 q4.length n3,.int .i64 q5] 28)).heap[w.heap.size + 1]? = some (.cells #[.int .i64 0,.int .i64 0] 40 (0,0)):=bA_ (blk_far (p:=⟨g9,1,none⟩) (blk_far (p:=⟨g9,0,none⟩) HK7.out (show w.heap.size + 1 ≠ g9 by omega) _) (show w.heap.size + 1 ≠ g9 by omega) _) _
   have b9 : (((w4.setCell ⟨g9,0,none⟩ (.int .i64 q6)).setCell ⟨g9,1,none⟩ (.int .i64 q7)).alloc (.cells #[.int .i64 q1,.slice A1 q2.length n1,.slice A2 q3.length n2,.slice A3 q4.length n3,.int .i64 q5] 28)).heap[g9]? = some (.cells #[.int .i64 q6,.int .i64 q7] 40 (0,0)):=bA_ b9' _
   have b10 : (((w4.setCell ⟨g9,0,none⟩ (.int .i64 q6)).setCell ⟨g9,1,none⟩ (.int .i64 q7)).alloc (.cells #[.int .i64 q1,.slice A1 q2.length n1,.slice A2 q3.length n2,.slice A3 q4.length n3,.int .i64 q5] 28)).heap[w4.heap.size]? = some (.cells #[.int .i64 q1,.slice A1 q2.length n1,.slice A2 q3.length n2,.slice A3 q4.length n3,.int .i64 q5] 28 (0,0)):=by have:=blk_new ((w4.setCell ⟨g9,0,none⟩ (.int .i64 q6)).setCell ⟨g9,1,none⟩ (.int .i64 q7)) (.cells #[.int .i64 q1,.slice A1 q2.length n1,.slice A2 q3.length n2,.slice A3 q4.length n3,.int .i64 q5] 28);simpa only [World.size_setCell] using this
   have hI5 : IsS98 w (((w4.setCell ⟨g9,0,none⟩ (.int .i64 q6)).setCell ⟨g9,1,none⟩ (.int .i64 q7)).alloc (.cells #[.int .i64 q1,.slice A1 q2.length n1,.slice A2 q3.length n2,.slice A3 q4.length n3,.int .i64 q5] 28)) g q8 q9 q10 q11:=IsS98.alloc (IsS98.far (p:=⟨g9,1,none⟩) (IsS98.far (p:=⟨g9,0,none⟩) HI.out hn9g _) hn9g _) _
   have hO5 : Out3 (((w4.setCell ⟨g9,0,none⟩ (.int .i64 q6)).setCell ⟨g9,1,none⟩ (.int .i64 q7)).alloc (.cells #[.int .i64 q1,.slice A1 q2.length n1,.slice A2 q3.length n2,.slice A3 q4.length n3,.int .i64 q5] 28)) w.heap.size (.slice A1 q2.length n1) (.slice A2 q3.length n2) (.slice A3 q4.length n3) q2 q3 q4:=Out3.alloc (Out3.set (Out3.set HO3.out HK9.out (.inr rfl) 0 _) (blk_put (cs:=#[.int .i64 0,.int .i64 0]) HK9.out 0 _ rfl) (.inr rfl) 1 _) _
   have hB5 : Below w.heap.size w (((w4.setCell ⟨g9,0,none⟩ (.int .i64 q6)).setCell ⟨g9,1,none⟩ (.int .i64 q7)).alloc (.cells #[.int .i64 q1,.slice A1 q2.length n1,.slice A2 q3.length n2,.slice A3 q4.length n3,.int .i64 q5] 28)):=eA_ (eS_ (eS_ HBW.out (by omega)) (by omega)) _
   have hn10 : g9 < w4.heap.size:=hlt9
   generalize w4.heap.size = g10 at b10 hn10 ⊢
   generalize ((w4.setCell ⟨g9,0,none⟩ (.int .i64 q6)).setCell ⟨g9,1,none⟩ (.int .i64 q7)).alloc (.cells #[.int .i64 q1,.slice A1 q2.length n1,.slice A2 q3.length n2,.slice A3 q4.length n3,.int .i64 q5] 28) = w5 at b6 b7 b9 b10 hI5 hO5 hB5 ⊢
   clear HO3 HI HK6 HK7 HK9 HBW f0 f1 g0 g1 hlt9 b9' HO
   have HK6:=A0_.mk b6
   have HK7:=A0_.mk b7
   have HK9:=A0_.mk b9
   have HK10:=A0_.mk b10
   have HI:=A0_.mk hI5
   have HO3:=A0_.mk hO5
   have HBW:=A0_.mk hB5
   have f0 : w5.cell? ⟨g9,0,none⟩ = some (.int .i64 q6):=(bC_ b9 0).trans rfl
   have f1 : w5.cell? ⟨g9,1,none⟩ = some (.int .i64 q7):=(bC_ b9 1).trans rfl
   clear b6 b7 b9 b10 hI5 hO5 hB5
   by_cases cq6 : q6 = 0
   ·by_cases cq7 : q7 = 0
    ·subst cq6 cq7
     rw [if_pos ⟨rfl,rfl⟩] at h
     have i1 : w5.cell? ⟨g,1,none⟩ = some (.int .i64 q9):=(bC_ HI.out.1 1).trans rfl
     by_cases c9 : q9 < (a0.size : Int)
     ·have c9b : decide (q9 < (a0.size : Int)) = true:=decide_eq_true c9
      rw [if_pos c9] at h
      simp only [Option.some.injEq,Prod.mk.injEq] at h
      obtain ⟨rfl,rfl,rfl,rfl,rfl,rfl,rfl⟩:=h
      go_wp2_with (first|((with_reducible refine gate_callee (f:=48) rfl ?_);refine goesL_ (some 42) rfl rfl Tryd.func48 (by kernel_rfl) rfl #[.pointer (some ⟨g,0,none⟩),.int .i64 3] rfl (by (try simp only [List.map_toArray,List.map_cons,List.map_nil]);first|done|rfl) ?_;(with_reducible refine (stim_reader_wrong.calls g q8 q9 q10 q11 3 q9 3 q8 q9 q10 q11 w w5 HI.out HBW.out rfl).mono ?_);rintro e w6 ⟨rfl,hI3,hb3,hk⟩;have n6_:=A0_.mk ((hk.2 _ (Array.getElem?_eq_some_iff.1 HK6.out).1 (fun e => by have:=HI.out.1;rw [← e,HK6.out] at this;cases this) (by simp)).trans HK6.out);have n7_:=A0_.mk ((hk.2 _ (Array.getElem?_eq_some_iff.1 HK7.out).1 (fun e => by have:=HI.out.1;rw [← e,HK7.out] at this;cases this) (by simp)).trans HK7.out);clear HBW HK6 HK7 HK9 HK10 HI HO3 i1 f0 f1;have HK6:=n6_;have HK7:=n7_;have HBW:=A0_.mk hb3;clear n6_ n7_ hI3 hb3 hk;have z0 : w6.cell? ⟨w.heap.size,0,none⟩ = some (.int .i64 0):=(bC_ HK6.out 0).trans rfl;have z1 : w6.cell? ⟨w.heap.size,1,none⟩ = some (.slice none 0 0):=(bC_ HK6.out 1).trans rfl;have z2 : w6.cell? ⟨w.heap.size,2,none⟩ = some (.slice none 0 0):=(bC_ HK6.out 2).trans rfl;have z3 : w6.cell? ⟨w.heap.size,3,none⟩ = some (.slice none 0 0):=(bC_ HK6.out 3).trans rfl;have z4 : w6.cell? ⟨w.heap.size,4,none⟩ = some (.int .i64 0):=(bC_ HK6.out 4).trans rfl;have y0 : w6.cell? ⟨w.heap.size + 1,0,none⟩ = some (.int .i64 0):=(bC_ HK7.out 0).trans rfl;have y1 : w6.cell? ⟨w.heap.size + 1,1,none⟩ = some (.int .i64 0):=(bC_ HK7.out 1).trans rfl;have x0:=bF_ HK6.out 0;have x1:=bF_ HK6.out 1;have x2:=bF_ HK6.out 2;have x3:=bF_ HK6.out 3;have x4:=bF_ HK6.out 4;have u0:=bF_ HK7.out 0;have u1:=bF_ HK7.out 1;refine ⟨_,rfl,?_⟩)|go_in)
      repeat (go_quiet (fail);try go_wp2)
      obtain ⟨e6,e7,eb,_⟩:=store7 HK6.out HK7.out HBW.out (Nat.le_refl _) (.int .i64 0) (.slice none 0 0) (.slice none 0 0) (.slice none 0 0) (.int .i64 0) (.int .i64 q9) (.int .i64 3)
      exact bodyPost_ret (results_cc rfl _ _ w.heap.size (w.heap.size + 1) 28 40 #[.int .i64 0,.slice none 0 0,.slice none 0 0,.slice none 0 0,.int .i64 0] #[.int .i64 q9,.int .i64 3] (0,0) (0,0) _ _ rfl e6 Tryd.underlying28 rfl (by kernel_rfl) rfl e7 Tryd.underlying40 rfl (by kernel_rfl)) rfl ⟨_,_,_,rfl,Kd.R_nil _ _ _ _ _,Kd.R_nil _ _ _ _ _,Kd.S_nil _ _ _ _ _,eb⟩
     ·have c9b : decide (q9 < (a0.size : Int)) = false:=decide_eq_false c9
      rw [if_neg c9] at h
      simp only [Option.some.injEq,Prod.mk.injEq] at h
      obtain ⟨rfl,rfl,rfl,rfl,rfl,rfl,rfl⟩:=h
      have z0 : w5.cell? ⟨w.heap.size,0,none⟩ = some (.int .i64 0):=(bC_ HK6.out 0).trans rfl
      have z1 : w5.cell? ⟨w.heap.size,1,none⟩ = some (.slice none 0 0):=(bC_ HK6.out 1).trans rfl
      have z2 : w5.cell? ⟨w.heap.size,2,none⟩ = some (.slice none 0 0):=(bC_ HK6.out 2).trans rfl
      have z3 : w5.cell? ⟨w.heap.size,3,none⟩ = some (.slice none 0 0):=(bC_ HK6.out 3).trans rfl
      have z4 : w5.cell? ⟨w.heap.size,4,none⟩ = some (.int .i64 0):=(bC_ HK6.out 4).trans rfl
      have y0 : w5.cell? ⟨w.heap.size + 1,0,none⟩ = some (.int .i64 0):=(bC_ HK7.out 0).trans rfl
      have y1 : w5.cell? ⟨w.heap.size + 1,1,none⟩ = some (.int .i64 0):=(bC_ HK7.out 1).trans rfl
      have x0:=bF_ HK6.out 0
      have x1:=bF_ HK6.out 1
      have x2:=bF_ HK6.out 2
      have x3:=bF_ HK6.out 3
      have x4:=bF_ HK6.out 4
      have u0:=bF_ HK7.out 0
      have u1:=bF_ HK7.out 1
      have t0 : w5.cell? ⟨g10,0,none⟩ = some (.int .i64 q1):=(bC_ HK10.out 0).trans rfl
      have t1 : w5.cell? ⟨g10,1,none⟩ = some (.slice A1 q2.length n1):=(bC_ HK10.out 1).trans rfl
      have t2 : w5.cell? ⟨g10,2,none⟩ = some (.slice A2 q3.length n2):=(bC_ HK10.out 2).trans rfl
      have t3 : w5.cell? ⟨g10,3,none⟩ = some (.slice A3 q4.length n3):=(bC_ HK10.out 3).trans rfl
      have t4 : w5.cell? ⟨g10,4,none⟩ = some (.int .i64 q5):=(bC_ HK10.out 4).trans rfl
      go_wp2
      repeat (go_quiet (fail);try go_wp2)
      obtain ⟨e6,e7,eb,eo⟩:=store7 HK6.out HK7.out HBW.out (Nat.le_refl _) (.int .i64 q1) (.slice A1 q2.length n1) (.slice A2 q3.length n2) (.slice A3 q4.length n3) (.int .i64 q5) (.int .i64 0) (.int .i64 0)
      have ho:=eo _ _ _ _ _ _ _ HO3.out
      exact bodyPost_ret (results_cc rfl _ _ w.heap.size (w.heap.size + 1) 28 40 #[.int .i64 q1,.slice A1 q2.length n1,.slice A2 q3.length n2,.slice A3 q4.length n3,.int .i64 q5] #[.int .i64 0,.int .i64 0] (0,0) (0,0) _ _ rfl e6 Tryd.underlying28 rfl (by kernel_rfl) rfl e7 Tryd.underlying40 rfl (by kernel_rfl)) rfl ⟨_,_,_,rfl,ho.1,ho.2.1,ho.2.2,eb⟩
    ·have cq7b : (q7 == 0) = false:=beq_eq_false_iff_ne.mpr cq7
     have cq6b : (q6 == 0) = true:=beq_iff_eq.mpr cq6
     rw [if_neg (by intro e_;first|exact cq6 e_.1|exact cq7 e_.2)] at h
     simp only [Option.some.injEq,Prod.mk.injEq] at h
     obtain ⟨rfl,rfl,rfl,rfl,rfl,rfl,rfl⟩:=h
     go_wp2
     repeat (go_quiet (fail);try go_wp2)
     have hkl : w.heap.size + 1 < w5.heap.size:=(Array.getElem?_eq_some_iff.1 HK7.out).1
     have e0 : (w5).cell? ⟨g9,0,none⟩ = some (.int .i64 q6):=f0
     have e1 : (w5).cell? ⟨g9,1,none⟩ = some (.int .i64 q7):=f1
     refine wp_normal' ?_
     refine start_ (n:=4) (S:=fun w' => w'.cell? ⟨g9,0,none⟩ = some (.int .i64 q6) ∧ w'.cell? ⟨g9,1,none⟩ = some (.int .i64 q7)) (ds:=[3]) #[false,false,false,false] (by kernel_rfl) rfl rfl ⟨e0,e1⟩ (fun hHeld => ?_)
     refine pure_ (i:=0) (N:=some 31) (v:=?_) (a':=?_) #[true,false,false,false] rfl rfl (by kernel_rfl) (fun _ _ _ h => by cases h.1) (Or.inl ⟨by rfl,?_⟩) ?_ ?_
     rotate_left
     ·intro w'
      go_simp
      with_reducible rfl
     rotate_left
     ·simp only [Act.put,List.setIfInBounds_toArray,List.set_cons_zero,List.set_cons_succ]
      rfl
     refine take_ (i:=1) (N:=some 32) (v:=?_) (a':=?_) #[true,true,false,false] rfl rfl (by kernel_rfl) (fun _ _ _ h => by cases h.1) (Or.inl ⟨by rfl,?_⟩) hHeld ?_ ?_
     rotate_left
     ·intro w' s0
      obtain ⟨s1,s2⟩:=s0
      go_simp
      with_reducible rfl
     rotate_left
     ·simp only [Act.put,List.setIfInBounds_toArray,List.set_cons_zero,List.set_cons_succ]
      rfl
     have k6 : (w5).drew.heap[w.heap.size]? = some (.cells #[.int .i64 0,.slice none 0 0,.slice none 0 0,.slice none 0 0,.int .i64 0] 28 (0,0)):=HK6.out
     have k7 : (w5).drew.heap[w.heap.size + 1]? = some (.cells #[.int .i64 0,.int .i64 0] 40 (0,0)):=HK7.out
     have hbd : Below w.heap.size w (w5).drew:=below_drew HBW.out
     generalize (w5).drew = wd at hHeld k6 k7 hbd ⊢
     have f0 : wd.cell? ⟨w.heap.size,0,none⟩ = some (.int .i64 0):=(bC_ k6 0).trans rfl
     have f1 : wd.cell? ⟨w.heap.size,1,none⟩ = some (.slice none 0 0):=(bC_ k6 1).trans rfl
     have f2 : wd.cell? ⟨w.heap.size,2,none⟩ = some (.slice none 0 0):=(bC_ k6 2).trans rfl
     have f3 : wd.cell? ⟨w.heap.size,3,none⟩ = some (.slice none 0 0):=(bC_ k6 3).trans rfl
     have f4 : wd.cell? ⟨w.heap.size,4,none⟩ = some (.int .i64 0):=(bC_ k6 4).trans rfl
     have g0:=bF_ k6 0
     have g1:=bF_ k6 1
     have g2:=bF_ k6 2
     have g3:=bF_ k6 3
     have g4:=bF_ k6 4
     refine one_ (i:=2) (N:=none) #[true,true,true,false] rfl rfl (by kernel_rfl) (by decide) (fun K hK => ?_)
     refine skip_ (w1:=((((wd.setCell ⟨w.heap.size,0,none⟩ (.int .i64 0)).setCell ⟨w.heap.size,1,none⟩ (.slice none 0 0)).setCell ⟨w.heap.size,2,none⟩ (.slice none 0 0)).setCell ⟨w.heap.size,3,none⟩ (.slice none 0 0)).setCell ⟨w.heap.size,4,none⟩ (.int .i64 0)) rfl rfl ?_ ?_
     ·go_simp
     have k6' : (((((wd.setCell ⟨w.heap.size,0,none⟩ (.int .i64 0)).setCell ⟨w.heap.size,1,none⟩ (.slice none 0 0)).setCell ⟨w.heap.size,2,none⟩ (.slice none 0 0)).setCell ⟨w.heap.size,3,none⟩ (.slice none 0 0)).setCell ⟨w.heap.size,4,none⟩ (.int .i64 0)).heap[w.heap.size]? = some (.cells #[.int .i64 0,.slice none 0 0,.slice none 0 0,.slice none 0 0,.int .i64 0] 28 (0,0)):=blk_put (cs:=#[.int .i64 0,.slice none 0 0,.slice none 0 0,.slice none 0 0,.int .i64 0]) (blk_put (cs:=#[.int .i64 0,.slice none 0 0,.slice none 0 0,.slice none 0 0,.int .i64 0]) (blk_put (cs:=#[.int .i64 0,.slice none 0 0,.slice none 0 0,.slice none 0 0,.int .i64 0]) (blk_put (cs:=#[.int .i64 0,.slice none 0 0,.slice none 0 0,.slice none 0 0,.int .i64 0]) (blk_put (cs:=#[.int .i64 0,.slice none 0 0,.slice none 0 0,.slice none 0 0,.int .i64 0]) k6 0 _ rfl) 1 _ rfl) 2 _ rfl) 3 _ rfl) 4 _ rfl
     have k7' : (((((wd.setCell ⟨w.heap.size,0,none⟩ (.int .i64 0)).setCell ⟨w.heap.size,1,none⟩ (.slice none 0 0)).setCell ⟨w.heap.size,2,none⟩ (.slice none 0 0)).setCell ⟨w.heap.size,3,none⟩ (.slice none 0 0)).setCell ⟨w.heap.size,4,none⟩ (.int .i64 0)).heap[w.heap.size + 1]? = some (.cells #[.int .i64 0,.int .i64 0] 40 (0,0)):=far5 k7 (by omega) _ _ _ _ _
     have kc:=fun j (u : Value) (hu : wd.cell? ⟨g9,j,none⟩ = some u) => far5c hu (show w.heap.size ≠ g9 by (have:=HN9.out;omega)) (.int .i64 0) (.slice none 0 0) (.slice none 0 0) (.slice none 0 0) (.int .i64 0)
     have hbd':=eS_ (eS_ (eS_ (eS_ (eS_ hbd (Nat.le_refl w.heap.size) (j:=0) (v:=.int .i64 0)) (Nat.le_refl _) (j:=1) (v:=.slice none 0 0)) (Nat.le_refl _) (j:=2) (v:=.slice none 0 0)) (Nat.le_refl _) (j:=3) (v:=.slice none 0 0)) (Nat.le_refl _) (j:=4) (v:=.int .i64 0)
     generalize ((((wd.setCell ⟨w.heap.size,0,none⟩ (.int .i64 0)).setCell ⟨w.heap.size,1,none⟩ (.slice none 0 0)).setCell ⟨w.heap.size,2,none⟩ (.slice none 0 0)).setCell ⟨w.heap.size,3,none⟩ (.slice none 0 0)).setCell ⟨w.heap.size,4,none⟩ (.int .i64 0) = we at k6' k7' kc hbd' ⊢
     refine hK.out _ _ ⟨kc _ _ hHeld.1,kc _ _ hHeld.2⟩ (fun hHeld2 => ?_)
     clear hK K
     have f5 : we.cell? ⟨w.heap.size + 1,0,none⟩ = some (.int .i64 0):=(bC_ k7' 0).trans rfl
     have f6 : we.cell? ⟨w.heap.size + 1,1,none⟩ = some (.int .i64 0):=(bC_ k7' 1).trans rfl
     have g5:=bF_ k7' 0
     have g6:=bF_ k7' 1
     refine last_ (i:=3) (N:=none) #[true,true,true,true] rfl rfl (by kernel_rfl) (by decide) (fun K hK => ?_)
     refine skip_ (w1:=(we.setCell ⟨w.heap.size + 1,0,none⟩ (.int .i64 q6)).setCell ⟨w.heap.size + 1,1,none⟩ (.int .i64 q7)) rfl rfl ?_ ?_
     ·go_simp
     refine hK.out _ _ ?_
     clear hK K
     have k6e:=blk_far (p:=⟨w.heap.size + 1,1,none⟩) (blk_far (p:=⟨w.heap.size + 1,0,none⟩) k6' (show w.heap.size ≠ w.heap.size + 1 by omega) (.int .i64 q6)) (show w.heap.size ≠ w.heap.size + 1 by omega) (.int .i64 q7)
     have k7e:=blk_put (cs:=#[.int .i64 q6,.int .i64 0]) (blk_put (cs:=#[.int .i64 0,.int .i64 0]) k7' 0 (.int .i64 q6) rfl) 1 (.int .i64 q7) rfl
     have hbe:=eS_ (eS_ hbd' (show w.heap.size ≤ w.heap.size + 1 by omega) (j:=0) (v:=.int .i64 q6)) (show w.heap.size ≤ w.heap.size + 1 by omega) (j:=1) (v:=.int .i64 q7)
     refine done_ (by kernel_rfl) ⟨rfl,?_⟩
     rename_i hKK
     refine hKK _ _ ?_
     go_wp2
     refine bodyPost_ret (results_cc rfl _ _ w.heap.size (w.heap.size + 1) 28 40 #[.int .i64 0,.slice none 0 0,.slice none 0 0,.slice none 0 0,.int .i64 0] #[.int .i64 q6,.int .i64 q7] (0,0) (0,0) _ _ rfl k6e Tryd.underlying28 rfl (by kernel_rfl) rfl k7e Tryd.underlying40 rfl (by kernel_rfl)) rfl ?_
     exact ⟨_,_,_,rfl,Kd.R_nil _ _ _ _ _,Kd.R_nil _ _ _ _ _,Kd.S_nil _ _ _ _ _,hbe⟩
   ·have cq6b : (q6 == 0) = false:=beq_eq_false_iff_ne.mpr cq6
    rw [if_neg (by intro e_;first|exact cq6 e_.1|exact cq7 e_.2)] at h
    simp only [Option.some.injEq,Prod.mk.injEq] at h
    obtain ⟨rfl,rfl,rfl,rfl,rfl,rfl,rfl⟩:=h
    go_wp2
    repeat (go_quiet (fail);try go_wp2)
    have hkl : w.heap.size + 1 < w5.heap.size:=(Array.getElem?_eq_some_iff.1 HK7.out).1
    have e0 : (w5).cell? ⟨g9,0,none⟩ = some (.int .i64 q6):=f0
    have e1 : (w5).cell? ⟨g9,1,none⟩ = some (.int .i64 q7):=f1
    refine wp_normal' ?_
    refine start_ (n:=4) (S:=fun w' => w'.cell? ⟨g9,0,none⟩ = some (.int .i64 q6) ∧ w'.cell? ⟨g9,1,none⟩ = some (.int .i64 q7)) (ds:=[3]) #[false,false,false,false] (by kernel_rfl) rfl rfl ⟨e0,e1⟩ (fun hHeld => ?_)
    refine pure_ (i:=0) (N:=some 31) (v:=?_) (a':=?_) #[true,false,false,false] rfl rfl (by kernel_rfl) (fun _ _ _ h => by cases h.1) (Or.inl ⟨by rfl,?_⟩) ?_ ?_
    rotate_left
    ·intro w'
     go_simp
     with_reducible rfl
    rotate_left
    ·simp only [Act.put,List.setIfInBounds_toArray,List.set_cons_zero,List.set_cons_succ]
     rfl
    refine take_ (i:=1) (N:=some 32) (v:=?_) (a':=?_) #[true,true,false,false] rfl rfl (by kernel_rfl) (fun _ _ _ h => by cases h.1) (Or.inl ⟨by rfl,?_⟩) hHeld ?_ ?_
    rotate_left
    ·intro w' s0
     obtain ⟨s1,s2⟩:=s0
     go_simp
     with_reducible rfl
    rotate_left
    ·simp only [Act.put,List.setIfInBounds_toArray,List.set_cons_zero,List.set_cons_succ]
     rfl
    have k6 : (w5).drew.heap[w.heap.size]? = some (.cells #[.int .i64 0,.slice none 0 0,.slice none 0 0,.slice none 0 0,.int .i64 0] 28 (0,0)):=HK6.out
    have k7 : (w5).drew.heap[w.heap.size + 1]? = some (.cells #[.int .i64 0,.int .i64 0] 40 (0,0)):=HK7.out
    have hbd : Below w.heap.size w (w5).drew:=below_drew HBW.out
    generalize (w5).drew = wd at hHeld k6 k7 hbd ⊢
    have f0 : wd.cell? ⟨w.heap.size,0,none⟩ = some (.int .i64 0):=(bC_ k6 0).trans rfl
    have f1 : wd.cell? ⟨w.heap.size,1,none⟩ = some (.slice none 0 0):=(bC_ k6 1).trans rfl
    have f2 : wd.cell? ⟨w.heap.size,2,none⟩ = some (.slice none 0 0):=(bC_ k6 2).trans rfl
    have f3 : wd.cell? ⟨w.heap.size,3,none⟩ = some (.slice none 0 0):=(bC_ k6 3).trans rfl
    have f4 : wd.cell? ⟨w.heap.size,4,none⟩ = some (.int .i64 0):=(bC_ k6 4).trans rfl
    have g0:=bF_ k6 0
    have g1:=bF_ k6 1
    have g2:=bF_ k6 2
    have g3:=bF_ k6 3
    have g4:=bF_ k6 4
    refine one_ (i:=2) (N:=none) #[true,true,true,false] rfl rfl (by kernel_rfl) (by decide) (fun K hK => ?_)
    refine skip_ (w1:=((((wd.setCell ⟨w.heap.size,0,none⟩ (.int .i64 0)).setCell ⟨w.heap.size,1,none⟩ (.slice none 0 0)).setCell ⟨w.heap.size,2,none⟩ (.slice none 0 0)).setCell ⟨w.heap.size,3,none⟩ (.slice none 0 0)).setCell ⟨w.heap.size,4,none⟩ (.int .i64 0)) rfl rfl ?_ ?_
    ·go_simp
    have k6' : (((((wd.setCell ⟨w.heap.size,0,none⟩ (.int .i64 0)).setCell ⟨w.heap.size,1,none⟩ (.slice none 0 0)).setCell ⟨w.heap.size,2,none⟩ (.slice none 0 0)).setCell ⟨w.heap.size,3,none⟩ (.slice none 0 0)).setCell ⟨w.heap.size,4,none⟩ (.int .i64 0)).heap[w.heap.size]? = some (.cells #[.int .i64 0,.slice none 0 0,.slice none 0 0,.slice none 0 0,.int .i64 0] 28 (0,0)):=blk_put (cs:=#[.int .i64 0,.slice none 0 0,.slice none 0 0,.slice none 0 0,.int .i64 0]) (blk_put (cs:=#[.int .i64 0,.slice none 0 0,.slice none 0 0,.slice none 0 0,.int .i64 0]) (blk_put (cs:=#[.int .i64 0,.slice none 0 0,.slice none 0 0,.slice none 0 0,.int .i64 0]) (blk_put (cs:=#[.int .i64 0,.slice none 0 0,.slice none 0 0,.slice none 0 0,.int .i64 0]) (blk_put (cs:=#[.int .i64 0,.slice none 0 0,.slice none 0 0,.slice none 0 0,.int .i64 0]) k6 0 _ rfl) 1 _ rfl) 2 _ rfl) 3 _ rfl) 4 _ rfl
    have k7' : (((((wd.setCell ⟨w.heap.size,0,none⟩ (.int .i64 0)).setCell ⟨w.heap.size,1,none⟩ (.slice none 0 0)).setCell ⟨w.heap.size,2,none⟩ (.slice none 0 0)).setCell ⟨w.heap.size,3,none⟩ (.slice none 0 0)).setCell ⟨w.heap.size,4,none⟩ (.int .i64 0)).heap[w.heap.size + 1]? = some (.cells #[.int .i64 0,.int .i64 0] 40 (0,0)):=far5 k7 (by omega) _ _ _ _ _
    have kc:=fun j (u : Value) (hu : wd.cell? ⟨g9,j,none⟩ = some u) => far5c hu (show w.heap.size ≠ g9 by (have:=HN9.out;omega)) (.int .i64 0) (.slice none 0 0) (.slice none 0 0) (.slice none 0 0) (.int .i64 0)
    have hbd':=eS_ (eS_ (eS_ (eS_ (eS_ hbd (Nat.le_refl w.heap.size) (j:=0) (v:=.int .i64 0)) (Nat.le_refl _) (j:=1) (v:=.slice none 0 0)) (Nat.le_refl _) (j:=2) (v:=.slice none 0 0)) (Nat.le_refl _) (j:=3) (v:=.slice none 0 0)) (Nat.le_refl _) (j:=4) (v:=.int .i64 0)
    generalize ((((wd.setCell ⟨w.heap.size,0,none⟩ (.int .i64 0)).setCell ⟨w.heap.size,1,none⟩ (.slice none 0 0)).setCell ⟨w.heap.size,2,none⟩ (.slice none 0 0)).setCell ⟨w.heap.size,3,none⟩ (.slice none 0 0)).setCell ⟨w.heap.size,4,none⟩ (.int .i64 0) = we at k6' k7' kc hbd' ⊢
    refine hK.out _ _ ⟨kc _ _ hHeld.1,kc _ _ hHeld.2⟩ (fun hHeld2 => ?_)
    clear hK K
    have f5 : we.cell? ⟨w.heap.size + 1,0,none⟩ = some (.int .i64 0):=(bC_ k7' 0).trans rfl
    have f6 : we.cell? ⟨w.heap.size + 1,1,none⟩ = some (.int .i64 0):=(bC_ k7' 1).trans rfl
    have g5:=bF_ k7' 0
    have g6:=bF_ k7' 1
    refine last_ (i:=3) (N:=none) #[true,true,true,true] rfl rfl (by kernel_rfl) (by decide) (fun K hK => ?_)
    refine skip_ (w1:=(we.setCell ⟨w.heap.size + 1,0,none⟩ (.int .i64 q6)).setCell ⟨w.heap.size + 1,1,none⟩ (.int .i64 q7)) rfl rfl ?_ ?_
    ·go_simp
    refine hK.out _ _ ?_
    clear hK K
    have k6e:=blk_far (p:=⟨w.heap.size + 1,1,none⟩) (blk_far (p:=⟨w.heap.size + 1,0,none⟩) k6' (show w.heap.size ≠ w.heap.size + 1 by omega) (.int .i64 q6)) (show w.heap.size ≠ w.heap.size + 1 by omega) (.int .i64 q7)
    have k7e:=blk_put (cs:=#[.int .i64 q6,.int .i64 0]) (blk_put (cs:=#[.int .i64 0,.int .i64 0]) k7' 0 (.int .i64 q6) rfl) 1 (.int .i64 q7) rfl
    have hbe:=eS_ (eS_ hbd' (show w.heap.size ≤ w.heap.size + 1 by omega) (j:=0) (v:=.int .i64 q6)) (show w.heap.size ≤ w.heap.size + 1 by omega) (j:=1) (v:=.int .i64 q7)
    refine done_ (by kernel_rfl) ⟨rfl,?_⟩
    rename_i hKK
    refine hKK _ _ ?_
    go_wp2
    refine bodyPost_ret (results_cc rfl _ _ w.heap.size (w.heap.size + 1) 28 40 #[.int .i64 0,.slice none 0 0,.slice none 0 0,.slice none 0 0,.int .i64 0] #[.int .i64 q6,.int .i64 q7] (0,0) (0,0) _ _ rfl k6e Tryd.underlying28 rfl (by kernel_rfl) rfl k7e Tryd.underlying40 rfl (by kernel_rfl)) rfl ?_
    exact ⟨_,_,_,rfl,Kd.R_nil _ _ _ _ _,Kd.R_nil _ _ _ _ _,Kd.S_nil _ _ _ _ _,hbe⟩
end Go.Proofs.YtojepjkpnponoaaDoor.Stim

