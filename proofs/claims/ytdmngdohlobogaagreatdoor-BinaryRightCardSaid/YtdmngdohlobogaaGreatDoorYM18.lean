import Derived.Shelf.SlCmpFuncs.BinarySearchFunc
import Derived.Shelf.Spec.SlicesInsertGrow
import Derived.Test.YtdmngdohlobogaaGreatDoorYShelf
import Derived.Test.YtdmngdohlobogaaGreatDoorYM16
import Derived.Test.YtdmngdohlobogaaGreatDoorYSHUses
section
namespace Go.Proofs
open Go.Shelf
def Tryz.laysI_ren : Go.Shelf.Ren:=⟨fun|21 => 104|27 => 119|28 => 120|35 => 129|39 => 138|n => n,fun|0 => 0|3 => 3|4 => 4|22 => 22|n => n,fun|n => n⟩
set_option maxRecDepth 100000 in
theorem Tryz.laysI : Lays2.n21 Tryz.prog Tryz.laysI_ren:={
 mixed:=by kernel_rfl
 f21:=Tryz.func104.trans (congrArg some (by kernel_rfl))
 f27:=Tryz.func119.trans (congrArg some (by kernel_rfl))
 f28:=Tryz.func120.trans (congrArg some (by kernel_rfl))
 f35:=Tryz.func129.trans (congrArg some (by kernel_rfl))
 f39:=Tryz.func138.trans (congrArg some (by kernel_rfl))
 t0:=Tryz.underlying0
 a0:=Tryz.isAgg0
 z0:=Tryz.sizeOf0
 v0:=Tryz.zeroValue0
 t3:=Tryz.underlying3
 a3:=Tryz.isAgg3
 z3:=Tryz.sizeOf3
 v3:=Tryz.zeroValue3
 t4:=Tryz.underlying4
 a4:=Tryz.isAgg4
 z4:=Tryz.sizeOf4
 v4:=Tryz.zeroValue4
 t22:=Tryz.underlying22
 a22:=Tryz.isAgg22
 z22:=Tryz.sizeOf22
 v22:=Tryz.zeroValue22
 i3:=by kernel_rfl }
end Go.Proofs
end
section
namespace Go.Proofs.YtdmngdohlobogaaGreatDoor.Asc
open Go Go.RowKit Go.Proofs.YtdmngdohlobogaaGreatDoorW.PrintWords Go.Proofs.YtdmngdohlobogaaGreatDoorW.PrintLast Go.Proofs.YtdmngdohlobogaaGreatDoorW.PrintMore
set_option linter.unusedVariables false
set_option linter.unusedSimpArgs false
def bsGo (l : List Int) (x : Int) : Nat → Nat → Nat → Nat
 |0,lo,_ => lo
 |k + 1,lo,hi => if lo < hi then (if x - l.getD ((lo + hi) / 2) 0 < 0 then bsGo l x k ((lo + hi) / 2 + 1) hi else bsGo l x k lo ((lo + hi) / 2)) else lo
def bsF (l : List Int) (x : Int) : Nat:=bsGo l x l.length 0 l.length
theorem bsGo_end (l : List Int) (x : Int) (k lo hi : Nat) (h : ¬ lo < hi) : bsGo l x k lo hi = lo:=by
 cases k with
 |zero => rfl
 |succ k => rw [bsGo,if_neg h]
theorem bsGo_le (l : List Int) (x : Int) : ∀ (k lo hi : Nat),lo ≤ hi → bsGo l x k lo hi ≤ hi
 |0,lo,hi,h => h
 |k + 1,lo,hi,h => by
  rw [bsGo]
  split
  ·split
   ·exact bsGo_le l x k _ _ (by omega)
   ·exact Nat.le_trans (bsGo_le l x k _ _ (by omega)) (by omega)
  ·exact h
theorem bsF_le (l : List Int) (x : Int) : bsF l x ≤ l.length:=bsGo_le l x _ _ _ (Nat.zero_le _)
theorem add_off {g o n : Nat} : (⟨g,o,none⟩ : Addr).add n = ⟨g,o + n,none⟩:=by cases n <;> simp [Addr.add]
set_option maxHeartbeats 4000000 in
set_option maxRecDepth 100000 in
theorem bs_calls {g0 : Nat} {A : Option Addr} {cp : Nat} {l : List Int} {w : World} (hC : Kd.C (Kd.int .i64) w A l.length l) (x : Int) (hx : 0 ≤ x ∧ x < 1048576) (hl : ∀ y ∈ l,0 ≤ y ∧ y < 1048576) (hll : l.length ≤ 1099511627776) :
  Calls Tryz.prog 102 #[.slice A l.length cp,.int .i64 x,.func (.func 103) #[] #[]] w fun e w' => (∃ q,e = .returned (.tuple #[.int .i64 (bsF l x : Nat),.bool q])) ∧ w' = w:=by
 obtain ⟨R,hR⟩ : ∃ R,bsF l x = R:=⟨_,rfl⟩
 rw [hR]
 have HC:=A0_.mk hC
 have HL:=A0_.mk hl
 have HX:=A0_.mk hx
 have HLL:=A0_.mk hll
 have HR:=A0_.mk hR
 clear hC hl hx hR hll
 go_enter Tryz.func102,Tryz.ntmps102
 go_wp2
 repeat (go_quiet (fail);try go_wp2)
 (try simp only [Act.put,sA_,sB_,sC_])
 go_loopg [9,10] l.length (fun kq v9 v10 w' => ∃ (lo hi : Nat),v9 = .int .i64 lo ∧ v10 = .int .i64 hi ∧ A0_ (lo ≤ hi) ∧ A0_ (hi ≤ l.length) ∧ A0_ (hi - lo ≤ kq) ∧ A0_ (bsGo l x kq lo hi = R) ∧ w' = w)
 case atStart => exact ⟨0,l.length,rfl,rfl,⟨Nat.zero_le _⟩,⟨Nat.le_refl _⟩,⟨by omega⟩,HR,rfl⟩
 case round =>
  clear HR
  obtain ⟨lo,hi,rfl,rfl,H1,H2,H3,HR,rfl⟩:=hrel
  by_cases hlt : lo < hi
  ·have hltb : decide ((lo : Int) < (hi : Int)) = true:=decide_eq_true (by omega)
   obtain ⟨h,hh⟩ : ∃ h,(lo + hi) / 2 = h:=⟨_,rfl⟩
   have hhi : h < hi:=by omega
   have hhl : h < l.length:=by have:=H2.out;omega
   obtain ⟨kk,rfl⟩ : ∃ kk,gk = kk + 1:=by
    cases gk with
    |zero => have:=H3.out;omega
    |succ kk => exact ⟨kk,rfl⟩
   have hsum : IntKind.i64.wrap ((lo : Int) + (hi : Int)) = (lo : Int) + (hi : Int):=by have:=HLL.out;have:=H2.out;rw [IntKind.wrap_i64];omega
   have hdiv : ((lo : Int) + (hi : Int)) / 2 = (h : Int):=by omega
   have hu : IntKind.u64.wrap ((lo : Int) + (hi : Int)) = (lo : Int) + (hi : Int):=by have:=HLL.out;have:=H2.out;rw [IntKind.wrap_u64];omega
   have hu2 : wrap64 (h : Int) = (h : Int):=by have:=HLL.out;unfold wrap64;omega
   have p0 : (0 ≤ (h : Int)) = True:=eq_true (by omega)
   have p1 : ((h : Int) < (l.length : Int)) = True:=eq_true (by omega)
   obtain ⟨ad,ea,hc⟩:=C_int_get HC.out h hhl
   cases ea
   have hy:=HL.out l[h] (List.getElem_mem _)
   have hr:=HR.out
   rw [bsGo,if_pos hlt,hh,List.getD_eq_getElem?_getD,List.getElem?_eq_getElem hhl,Option.getD_some] at hr
   clear HR
   generalize l[h] = y at hr hc hy
   have hxw : wrap64 (x - y) = x - y:=by have:=HX.out;unfold wrap64;omega
   have HH:=A0_.mk hh
   have h1w : IntKind.i64.wrap ((h : Int) + 1) = ((h + 1 : Nat) : Int):=by have:=HLL.out;rw [IntKind.wrap_i64];omega
   clear hh hy
   by_cases hyx : x - y < 0
   ·have hyb : decide (x - y < 0) = true:=decide_eq_true hyx
    rw [if_pos hyx] at hr
    have HR:=A0_.mk hr
    clear hr
    go_wp2
    repeat (go_quiet (fail);try go_wp2)
    go_roundg kk
    case measure => omega
    case rel => exact ⟨h + 1,hi,rfl,rfl,⟨by omega⟩,H2,⟨by have:=H3.out;have:=HH.out;omega⟩,HR,rfl⟩
   ·have hyb : decide (x - y < 0) = false:=decide_eq_false hyx
    have hyn : 0 ≤ x - y:=Int.not_lt.1 hyx
    rw [if_neg hyx] at hr
    have HR:=A0_.mk hr
    clear hr
    go_wp2
    repeat (go_quiet (fail);try go_wp2)
    go_roundg kk
    case measure => omega
    case rel => exact ⟨lo,h,rfl,rfl,⟨by have:=HH.out;omega⟩,⟨by have:=H2.out;omega⟩,⟨by have:=H3.out;have:=HH.out;omega⟩,HR,rfl⟩
  ·have hltb : decide ((lo : Int) < (hi : Int)) = false:=decide_eq_false (by omega)
   have hr:=HR.out
   rw [bsGo_end _ _ _ _ _ hlt] at hr
   obtain rfl : lo = hi:=by have:=H1.out;omega
   subst hr
   clear hlt
   by_cases hl2 : lo < l.length
   ·have hl2b : decide ((lo : Int) < (l.length : Int)) = true:=decide_eq_true (by omega)
    have p0 : (0 ≤ (lo : Int)) = True:=eq_true (by omega)
    have p1 : ((lo : Int) < (l.length : Int)) = True:=eq_true (by omega)
    obtain ⟨ad,ea,hc⟩:=C_int_get HC.out lo hl2
    cases ea
    have hy:=HL.out l[lo] (List.getElem_mem _)
    generalize l[lo] = y at hc hy
    have hxw : wrap64 (x - y) = x - y:=by have:=HX.out;unfold wrap64;omega
    clear hy hl2
    go_wp2
    repeat (go_quiet (fail);try go_wp2)
    show bodyPost _ _ _ _ _ _
    refine bodyPost_ret (results_tmp2 rfl _ _ _) rfl ?_
    exact ⟨⟨_,rfl⟩,rfl⟩
   ·have hl2b : decide ((lo : Int) < (l.length : Int)) = false:=decide_eq_false (by omega)
    have hl2n : (l.length : Int) ≤ (lo : Int):=by omega
    have hl2m : ((lo : Int) < (l.length : Int)) = False:=eq_false (by omega)
    clear hl2
    go_wp2
    repeat (go_quiet (fail);try go_wp2)
    show bodyPost _ _ _ _ _ _
    refine bodyPost_ret (results_tmp2 rfl _ _ _) rfl ?_
    exact ⟨⟨_,rfl⟩,rfl⟩
end Go.Proofs.YtdmngdohlobogaaGreatDoor.Asc
end
section
namespace Go.Proofs.YtdmngdohlobogaaGreatDoor.Asc
open Go Go.RowKit Go.Proofs.YtdmngdohlobogaaGreatDoorW.PrintWords Go.Proofs.YtdmngdohlobogaaGreatDoorW.PrintLast Go.Proofs.YtdmngdohlobogaaGreatDoorW.PrintMore
set_option linter.unusedVariables false
set_option linter.unusedSimpArgs false
def OwnI (w : World) (g0 : Nat) (v : Value) (l : List Int) : Prop:=Kd.R (Kd.int .i64) 3 w g0 (fun _ => True) v l
def encI (l : List Int) : List Value:=l.map (Value.int .i64)
theorem OwnI.row {w : World} {g0 : Nat} {v : Value} {l : List Int} (h : OwnI w g0 v l) : w.ownsRow g0 3 1 v l.length (encI l):=Kd.own_of_R h
theorem OwnI.of {w : World} {g0 : Nat} {v : Value} {l : List Int} (h : w.ownsRow g0 3 1 v l.length (encI l)) : OwnI w g0 v l:=Kd.R_of_own h (fun _ _ => trivial)
theorem OwnI.move {w W : World} {g0 : Nat} {v : Value} {l : List Int} (h : OwnI w g0 v l) (hm : ∀ k,v.ownBlock = some k → W.heap[k]? = w.heap[k]?) : OwnI W g0 v l:=OwnI.of (own_move h.row hm)
theorem OwnI.cases {w : World} {g0 : Nat} {v : Value} {l : List Int} (h : OwnI w g0 v l) : (v = .slice none 0 0 ∧ l = []) ∨ ∃ g cap cur,v = .slice (some ⟨g,0,none⟩) l.length cap ∧ g0 ≤ g ∧ w.heap[g]? = some (.cells cur 3 (0,0)) ∧ l.length ≤ cap ∧ cap ≤ 9223372036854775807 ∧ cur.size = cap ∧ cur.toList.take l.length = encI l:=by
 rcases h.row.2 with ⟨h1,h2⟩|⟨g,cap,cur,h1,h2,h3,h4,h5,h6,h7⟩
 ·exact .inl ⟨h1,List.length_eq_zero_iff.1 h2⟩
 ·refine .inr ⟨g,cap,cur,h1,h2,h3,h4,h5,by rw [h6,Nat.mul_one],by rw [Nat.mul_one] at h7;exact h7⟩
theorem OwnI.mk_ {w : World} {g0 g cap : Nat} {cur : Array Value} {l : List Int} (h2 : g0 ≤ g) (h3 : w.heap[g]? = some (.cells cur 3 (0,0))) (h4 : l.length ≤ cap) (h5 : cap ≤ 9223372036854775807) (h6 : cur.size = cap) (h7 : cur.toList.take l.length = encI l) : OwnI w g0 (.slice (some ⟨g,0,none⟩) l.length cap) l :=
 OwnI.of ⟨by simp [encI],.inr ⟨g,cap,cur,rfl,h2,h3,h4,h5,by rw [h6,Nat.mul_one],by rw [Nat.mul_one];exact h7⟩⟩
theorem OwnI.mk' {w : World} {g0 g cap n : Nat} {cur : Array Value} {l : List Int} (hn : l.length = n) (h2 : g0 ≤ g) (h3 : w.heap[g]? = some (.cells cur 3 (0,0))) (h4 : n ≤ cap) (h5 : cap ≤ 9223372036854775807) (h6 : cur.size = cap) (h7 : cur.toList.take n = encI l) : OwnI w g0 (.slice (some ⟨g,0,none⟩) n cap) l:=by
 subst hn
 exact OwnI.mk_ h2 h3 h4 h5 h6 h7
theorem OwnI.lt {w : World} {g0 : Nat} {v : Value} {l : List Int} (h : OwnI w g0 v l) (k : Nat) (hk : v.ownBlock = some k) : g0 ≤ k ∧ k < w.heap.size:=by
 rcases h.cases with ⟨rfl,_⟩|⟨g,cap,cur,rfl,h1,h2,_⟩
 ·simp [Value.ownBlock] at hk
 ·have : g = k:=by simpa [Value.ownBlock] using hk
  subst this
  exact ⟨h1,(Array.getElem?_eq_some_iff.1 h2).1⟩
structure RowK (w w' : World) (g0 : Nat) (v v' : Value) : Prop where
 below : Below g0 w w'
 keep : ∀ k,k < w.heap.size → some k ≠ v.ownBlock → w'.heap[k]? = w.heap[k]?
 at_ : v'.ownBlock = v.ownBlock ∨ ∃ b,v'.ownBlock = some b ∧ w.heap.size ≤ b
theorem lower_ {B C : Nat} {w W : World} (hc : C ≤ B) (h : Below B w W) : Below C w W:=⟨h.os,h.tape,h.output,h.size,fun k hk => h.block k (by omega)⟩
theorem below_cells {B g : Nat} (hb : B ≤ g) (vs : List Value) (o : Nat) {w W : World} (h : Below B w W) : Below B w (W.setCells g o vs):=by
 obtain ⟨h1,h2,h3,h4⟩:=setCells_same g vs o W
 exact ⟨h1.trans h.os,h2.trans h.tape,h3.trans h.output,by rw [h4];exact h.size,fun k hk => (setCells_far vs o k (by omega)).trans (h.block k hk)⟩
theorem encI_one {l : List Int} : ∀ v ∈ encI l,v.oneCell' = true:=by
 intro v hv
 simp only [encI,List.mem_map] at hv
 obtain ⟨x,_,rfl⟩:=hv
 rfl
theorem cells_of {w : World} {g : Nat} {cur : Array Value} {l : List Int} (h : w.heap[g]? = some (.cells cur 3 (0,0))) (ht : cur.toList.take l.length = encI l) (j : Nat) (v : Value) (hj : (encI l)[j]? = some v) : w.cell? ⟨g,j,none⟩ = some v:=by
 rw [← ht,List.getElem?_take] at hj
 split at hj
 ·rw [Array.getElem?_toList] at hj
  exact (bC_ h j).trans hj
 ·cases hj
theorem some_of {w : World} {g : Nat} {cur : Array Value} (h : w.heap[g]? = some (.cells cur 3 (0,0))) (j : Nat) (hj : j < cur.size) : (w.cell? ⟨g,j,none⟩).isSome = true:=by
 rw [bC_ h j]
 simp [hj]
theorem zeroI_size (n : Nat) : (Builtin.zeroCells (Value.int .i64 0).cells n).size = n:=by
 have : (Value.int .i64 0).cells = #[Value.int .i64 0]:=rfl
 rw [this]
 simp [Builtin.zeroCells]
theorem shift_list {α : Type} (c e r c1 c2 : List α) (i n : Nat) (x : α) (hi : i < n) (hc : n + 1 ≤ c.length) (he : c.take n = e) (h1 : c1 = c.take (i + 1) ++ e.drop i ++ r) (h2 : c2 = c1.take i ++ [x] ++ c1.drop (i + 1)) :
  c2.take (n + 1) = e.take i ++ [x] ++ e.drop i:=by
 have hel : e.length = n:=by rw [← he,List.length_take];omega
 rw [List.append_assoc] at h1
 have a1 : c1.take i = e.take i:=by
  rw [h1,List.take_append_of_le_length (by rw [List.length_take];omega),List.take_take,← he,List.take_take]
  congr 1
  omega
 have a2 : c1.drop (i + 1) = e.drop i ++ r:=by
  rw [h1]
  exact List.drop_left' (by rw [List.length_take];omega)
 rw [h2,a1,a2,← List.append_assoc]
 exact List.take_left' (by simp [hel];omega)
theorem grow_list {α : Type} (c e r c1 c2 : List α) (i n : Nat) (x : α) (hi : i < n) (he : e.length = n) (hz : c.length = n + 1 - i) (h1 : c1 = (e.take i ++ c ++ r).take i ++ [x] ++ (e.take i ++ c ++ r).drop (i + 1)) (h2 : c2 = c1.take (i + 1) ++ e.drop i ++ c1.drop (i + 1 + (e.drop i).length)) :
  c2.take (n + 1) = e.take i ++ [x] ++ e.drop i:=by
 have e1 : (e.take i ++ c ++ r).take i = e.take i:=by
  rw [List.append_assoc]
  exact List.take_left' (by simp;omega)
 have a1 : c1.take (i + 1) = e.take i ++ [x]:=by
  rw [h1,e1]
  exact List.take_left' (by simp;omega)
 rw [h2,a1]
 exact List.take_left' (by simp [he];omega)
theorem ins_calls {g0 : Nat} {w : World} {v : Value} {l : List Int} (h : OwnI w g0 v l) (i : Nat) (hi : i ≤ l.length) (x : Int) (vb : Nat) (hvb : w.heap[vb]? = some (.cells #[.int .i64 x] 3 (0,0))) (hne : v.ownBlock ≠ some vb) (hl : l.length ≤ 1099511627776) (hg0 : g0 ≤ w.heap.size) :
  Calls Tryz.prog 104 #[v,.int .i64 i,.slice (some ⟨vb,0,none⟩) 1 1] w fun e w' => ∃ v',e = .returned v' ∧ OwnI w' g0 v' (l.take i ++ x :: l.drop i) ∧ RowK w w' g0 v v':=by
 have hlen : (l.take i ++ x :: l.drop i).length = l.length + 1:=by simp;omega
 have hvs : ∀ j u,[Value.int .i64 x][j]? = some u → w.cell? ⟨vb,0 + j,none⟩ = some u:=by
  intro j u hj
  rw [Nat.zero_add]
  have:=bC_ hvb j
  rw [this]
  simpa using hj
 have hv1 : ∀ u ∈ [Value.int .i64 x],u.oneCell' = true:=by
  intro u hu
  simp only [List.mem_singleton] at hu
  subst hu
  rfl
 have henc : encI (l.take i ++ x :: l.drop i) = (encI l).take i ++ [Value.int .i64 x] ++ (encI l).drop i:=by simp [encI,List.map_take,List.map_drop]
 have hel : (encI l).length = l.length:=by simp [encI]
 rcases h.cases with ⟨rfl,rfl⟩|⟨g,cap,cur,rfl,h1,h2,h3,h4,h5,h6⟩
 ·obtain rfl : i = 0:=by simpa using hi
  refine (Any2.slices_Insert_int_end_grow Tryz.laysI none 0 0 vb 0 1 1 [] [.int .i64 x] w (by decide) (by decide) (by decide) (by decide) rfl rfl (fun _ => rfl) (fun a h => by cases h) hvs hv1).mono ?_
  rintro e w' ⟨rfl,rfl⟩
  refine ⟨_,rfl,?_,⟨?_,?_,?_⟩⟩
  ·exact OwnI.mk_ (l:=[x]) hg0 (blk_new _ _) (grownCap_ge _ _ _ _) (grownCap_le_maxLen _ _ _ _ (by decide)) (by
    rw [Array.size_append,zeroI_size]
    have:=grownCap_ge w 1 0 3
    simp
    show 1 + (grownCap w 1 0 3 - 1) = grownCap w 1 0 3
    omega) (by simp [encI])
  ·exact lower_ hg0 (eA_ (w:=w) (below_drew (Below.refl _ _)) _)
  ·intro k hk _
   exact (eA_ (w:=w) (below_drew (Below.refl _ _)) _).block k hk
  ·exact .inr ⟨_,rfl,Nat.le_refl _⟩
 ·have hcs : ∀ j u,(encI l)[j]? = some u → w.cell? ⟨g,0 + j,none⟩ = some u:=fun j u hj => by rw [Nat.zero_add];exact cells_of h2 h6 j u hj
  have hgl : g < w.heap.size:=(Array.getElem?_eq_some_iff.1 h2).1
  have hgv : vb ≠ g:=fun e => hne (by rw [e];rfl)
  have h6' : cur.toList.take (encI l).length = encI l:=by rw [hel];exact h6
  by_cases hroom : l.length + 1 ≤ cap
  ·by_cases hin : i < l.length
   ·refine (Any2.slices_Insert_int_shift Tryz.laysI g 0 l.length cap i vb 0 1 1 (encI l) [.int .i64 x] w hin (by decide) hroom h4 hgv hel rfl hcs (fun j hj => by rw [Nat.zero_add];exact some_of h2 j (by omega)) (fun j hj => bF_ h2 _) hvs encI_one hv1 3 3 1 cap (by simp [World.shape?,hvb]) (by simp [World.shape?,h2,h5]) (by omega) (bF_ hvb _) (bF_ hvb _)).mono ?_
    rintro e w' ⟨rfl,rfl⟩
    have hd : w.drew.heap[g]? = some (.cells cur 3 (0,0)):=h2
    obtain ⟨cur1,k1,k2,k3⟩:=setCells_row ((encI l).drop i) (0 + (i + 1)) w.drew cur hd (by rw [List.length_drop,hel];omega)
    obtain ⟨cur2,k4,k5,k6⟩:=setCells_row [Value.int .i64 x] (0 + i) _ cur1 k1 (by rw [k2];simp;omega)
    refine ⟨_,rfl,?_,⟨?_,?_,.inl rfl⟩⟩
    ·refine OwnI.mk' hlen h1 k4 (by omega) h4 (by omega) ?_
     rw [henc]
     rw [Nat.zero_add] at k3 k6
     have e2 : cur.toList.length = cap:=by rw [Array.length_toList];exact h5
     exact shift_list cur.toList (encI l) _ cur1.toList _ i l.length _ hin (by omega) h6 k3 k6
    ·exact below_cells h1 _ _ (below_cells h1 _ _ (below_drew (Below.refl _ _)))
    ·intro k hk hkg
     have : k ≠ g:=fun e => hkg (by rw [e];rfl)
     exact (setCells_far _ _ k this).trans (setCells_far _ _ k this)
   ·obtain rfl : i = l.length:=by omega
    refine (Any2.slices_Insert_int_end_room Tryz.laysI g 0 l.length cap vb 0 1 1 [.int .i64 x] w (by decide) hroom h4 rfl (fun j hj => some_of h2 _ (by omega)) (fun j hj => bF_ h2 _) hvs hv1).mono ?_
    rintro e w' ⟨rfl,rfl⟩
    obtain ⟨cur2,k4,k5,k6⟩:=setCells_row [Value.int .i64 x] (0 + l.length) w cur h2 (by simp;omega)
    refine ⟨_,rfl,?_,⟨?_,?_,.inl rfl⟩⟩
    ·refine OwnI.mk' hlen h1 k4 (by omega) h4 (by omega) ?_
     have e2 : cur.toList.length = cap:=by rw [Array.length_toList];exact h5
     rw [henc,k6,← hel,List.drop_length,List.append_nil,List.take_length,Nat.zero_add,h6',List.take_append_of_le_length (by simp),List.take_of_length_le (by simp)]
    ·exact below_cells h1 _ _ (Below.refl _ _)
    ·intro k hk hkg
     have : k ≠ g:=fun e => hkg (by rw [e];rfl)
     exact setCells_far _ _ k this
  ·by_cases hin : i < l.length
   ·refine (Any2.slices_Insert_int_grow Tryz.laysI g 0 l.length cap i vb 0 1 1 (encI l) [.int .i64 x] w hin (by decide) h3 (by omega) (by omega) hel rfl hcs hvs encI_one hv1).mono ?_
    rintro e w' ⟨rfl,rfl⟩
    obtain ⟨o,ho⟩ : ∃ o,o = (((encI l).take i).toArray ++ Builtin.zeroCells (Value.int .i64 0).cells (l.length + 1 - i) ++ Builtin.zeroCells (Value.int .i64 0).cells (grownCap w (l.length + 1) cap (Tryz.laysI_ren.t 3) - (l.length + 1))):=⟨_,rfl⟩
    rw [← ho]
    have hG:=grownCap_ge w (l.length + 1) cap 3
    have hos : o.size = grownCap w (l.length + 1) cap 3:=by
     rw [ho,Array.size_append,Array.size_append,zeroI_size,zeroI_size,List.size_toArray,List.length_take,hel]
     show min i l.length + (l.length + 1 - i) + (grownCap w (l.length + 1) cap 3 - (l.length + 1)) = _
     omega
    have hb:=blk_new w (.cells o 3)
    obtain ⟨cur1,k1,k2,k3⟩:=setCells_row [Value.int .i64 x] i (w.alloc (.cells o 3)).drew o hb (by simp;omega)
    obtain ⟨cur2,k4,k5,k6⟩:=setCells_row ((encI l).drop i) (i + 1) (((w.alloc (.cells o 3)).drew.setCells w.heap.size i [Value.int .i64 x]).drew) cur1 k1 (by rw [k2,List.length_drop,hel];omega)
    refine ⟨_,rfl,?_,⟨?_,?_,.inr ⟨_,rfl,Nat.le_refl _⟩⟩⟩
    ·refine OwnI.mk' hlen hg0 k4 hG (grownCap_le_maxLen _ _ _ _ (by simp only [maxLen];omega)) (by rw [k5,k2,hos];rfl) ?_
     rw [henc]
     refine grow_list (Builtin.zeroCells (Value.int .i64 0).cells (l.length + 1 - i)).toList (encI l) (Builtin.zeroCells (Value.int .i64 0).cells (grownCap w (l.length + 1) cap (Tryz.laysI_ren.t 3) - (l.length + 1))).toList cur1.toList _ i l.length _ hin hel (by rw [Array.length_toList,zeroI_size]) ?_ k6
     rw [k3,ho]
     simp only [Array.toList_append,List.length_singleton]
    ·exact below_cells hg0 _ _ (below_drew (below_cells hg0 _ _ (below_drew (lower_ hg0 (eA_ (w:=w) (Below.refl _ _) _)))))
    ·intro k hk _
     have : k ≠ w.heap.size:=by omega
     exact (setCells_far _ _ k this).trans ((setCells_far (w:=(w.alloc (.cells o 3)).drew) _ _ k this).trans ((eA_ (w:=w) (Below.refl _ _) _).block k hk))
   ·obtain rfl : i = l.length:=by omega
    refine (Any2.slices_Insert_int_end_grow Tryz.laysI (some ⟨g,0,none⟩) l.length cap vb 0 1 1 (encI l) [.int .i64 x] w (by decide) h3 (by omega) (by omega) hel rfl (fun e => by cases e) (fun a e j u hj => by cases e;rw [add_off];exact hcs j u hj) hvs hv1).mono ?_
    rintro e w' ⟨rfl,rfl⟩
    refine ⟨_,rfl,?_,⟨?_,?_,?_⟩⟩
    ·refine OwnI.mk' hlen hg0 (blk_new _ _) (grownCap_ge _ _ _ _) (grownCap_le_maxLen _ _ _ _ (by simp only [maxLen];omega)) (by
      rw [Array.size_append,zeroI_size]
      have:=grownCap_ge w (l.length + 1) cap 3
      simp only [List.size_toArray,List.length_append,hel,List.length_singleton]
      show l.length + 1 + (grownCap w (l.length + 1) cap 3 - (l.length + 1)) = grownCap w (l.length + 1) cap 3
      omega) (by
      rw [henc,← hel,List.drop_length,List.append_nil,List.take_length,Array.toList_append]
      exact List.take_left' (by simp))
    ·exact lower_ hg0 (eA_ (w:=w) (below_drew (Below.refl _ _)) _)
    ·intro k hk _
     exact (eA_ (w:=w) (below_drew (Below.refl _ _)) _).block k hk
    ·exact .inr ⟨_,rfl,Nat.le_refl _⟩
end Go.Proofs.YtdmngdohlobogaaGreatDoor.Asc
end
section
namespace Go.Proofs.YtdmngdohlobogaaGreatDoor.Asc
open Go Go.RowKit Go.Proofs.YtdmngdohlobogaaGreatDoorW.PrintWords Go.Proofs.YtdmngdohlobogaaGreatDoorW.PrintLast Go.Proofs.YtdmngdohlobogaaGreatDoorW.PrintMore
set_option linter.unusedVariables false
set_option linter.unusedSimpArgs false
def insF (l : List Int) (x : Int) : List Int:=l.take (bsF l x) ++ x :: l.drop (bsF l x)
theorem insF_len (l : List Int) (x : Int) : (insF l x).length = l.length + 1:=by
 have:=bsF_le l x
 simp [insF]
 omega
theorem insF_mem {l : List Int} {x y : Int} (h : y ∈ insF l x) : y = x ∨ y ∈ l:=by
 simp only [insF,List.mem_append,List.mem_cons] at h
 rcases h with h|h|h
 ·exact .inr (List.mem_of_mem_take h)
 ·exact .inl h
 ·exact .inr (List.mem_of_mem_drop h)
structure PushK (w w' : World) (g0 rb : Nat) (v v' : Value) : Prop where
 below : Below g0 w w'
 keep : ∀ k,k < w.heap.size → k ≠ rb → some k ≠ v.ownBlock → w'.heap[k]? = w.heap[k]?
 at_ : v'.ownBlock = v.ownBlock ∨ ∃ b,v'.ownBlock = some b ∧ w.heap.size ≤ b
set_option maxHeartbeats 4000000 in
set_option maxRecDepth 100000 in
theorem push_calls {g0 rb : Nat} {w : World} {v : Value} {l : List Int} (hr : w.heap[rb]? = some (.cells #[v] 22 (0,0))) (h : OwnI w g0 v l) (hg0 : g0 ≤ rb) (x : Int) (hx : 0 ≤ x ∧ x < 1048576) (hl : ∀ y ∈ l,0 ≤ y ∧ y < 1048576) (hll : l.length ≤ 1099511627776) :
  Calls Tryz.prog 101 #[.int .i64 x,.pointer (some ⟨rb,0,none⟩)] w fun e w' => e = .returned (.tuple #[]) ∧ ∃ v',w'.heap[rb]? = some (.cells #[v'] 22 (0,0)) ∧ OwnI w' g0 v' (insF l x) ∧ PushK w w' g0 rb v v':=by
 obtain ⟨A,c,rfl,_,hC⟩:=Kd.R_reads h
 have B:=bs_calls (g0:=g0) (cp:=c) hC x hx hl hll
 have c0 : w.cell? ⟨rb,0,none⟩ = some (.slice A l.length c):=(bC_ hr 0).trans rfl
 have HI:=A0_.mk h
 have HR:=A0_.mk hr
 have HB:=A0_.mk B
 have hbl:=bsF_le l x
 have HBL:=A0_.mk hbl
 have HLL:=A0_.mk hll
 have HG:=A0_.mk hg0
 clear h hr B hC hl hx hbl hll hg0
 go_enter Tryz.func101,Tryz.ntmps101
 go_upto_region 1 with (((with_reducible refine gate_callee (f:=102) rfl ?_);refine goesL_ (some 8) rfl rfl Tryz.func102 (by kernel_rfl) rfl #[.slice A l.length c,.int .i64 x,.func (.func 103) #[] #[]] rfl (by (try simp only [List.map_toArray,List.map_cons,List.map_nil]);first|done|rfl) ?_;(with_reducible refine (HB.out).mono ?_);rintro e w2 ⟨⟨q,rfl⟩,rfl⟩;refine ⟨_,rfl,?_⟩))
 have hrl : rb < w2.heap.size:=(Array.getElem?_eq_some_iff.1 HR.out).1
 have hnr : (Value.slice A l.length c).ownBlock ≠ some rb:=by
  intro hk
  obtain ⟨cells,hc⟩:=own_typed HI.out.row rb hk
  have:=HR.out
  rw [hc] at this
  injection this with this
  injection this with _ this
  exact absurd this (by decide)
 have hnn : (Value.slice A l.length c).ownBlock ≠ some w2.heap.size:=fun hk => by
  have:=(HI.out.lt _ hk).2
  omega
 obtain ⟨w3,h3⟩ : ∃ w3,w3 = w2.alloc (.cells #[.int .i64 x] 3):=⟨_,rfl⟩
 have hb3 : Below w2.heap.size w2 w3:=h3 ▸ eA_ (w:=w2) (Below.refl _ _) _
 have hI3 : OwnI w3 g0 (.slice A l.length c) l:=HI.out.move (fun k hk => hb3.block k (HI.out.lt k hk).2)
 have hg3 : g0 ≤ w3.heap.size:=by have:=hb3.size;have:=HG.out;omega
 have INS:=A0_.mk (ins_calls hI3 (bsF l x) HBL.out x w2.heap.size (h3 ▸ blk_new w2 _) hnn HLL.out hg3)
 have hr3 : w3.heap[rb]? = some (.cells #[.slice A l.length c] 22 (0,0)):=(hb3.block rb hrl).trans HR.out
 have R3:=A0_.mk hr3
 have B3:=A0_.mk hb3
 have N3:=A0_.mk hnr
 have S3:=A0_.mk hrl
 clear hb3 hI3 hg3 hr3 hnr hrl hnn HB HI HR
 subst h3
 go_wp2_with (first|((with_reducible refine gate_callee (f:=104) rfl ?_);refine goesL_ (some 15) rfl rfl Tryz.func104 (by kernel_rfl) rfl #[.slice A l.length c,.int .i64 (bsF l x : Nat),.slice (some ⟨w2.heap.size,0,none⟩) 1 1] rfl (by (try simp only [List.map_toArray,List.map_cons,List.map_nil]);first|done|rfl) ?_;(with_reducible refine (INS.out).mono ?_);rintro e w4 ⟨v2,rfl,hI4,hK4⟩;obtain ⟨A2,c2,rfl⟩:=Kd.R_slice hI4;have hr4:=(hK4.keep rb (Nat.lt_of_lt_of_le S3.out B3.out.size) (fun e => N3.out e.symm)).trans R3.out;have y0:=(bC_ hr4 0).trans rfl;have y1:=bF_ hr4 0;have I4:=A0_.mk hI4;have K4:=A0_.mk hK4;have R4:=A0_.mk hr4;clear hI4 hK4 hr4 INS;refine ⟨_,rfl,?_⟩)|go_in)
 repeat (go_quiet (fail);try go_wp2)
 go_end0
 refine ⟨rfl,_,blk_set R4.out 0 _,?_,?_,?_,?_⟩
 ·have e : min (bsF l x) l.length + (l.length - bsF l x + 1) = (l.take (bsF l x) ++ x :: l.drop (bsF l x)).length:=by simp
  rw [e]
  refine I4.out.move (fun k hk => Below.heap_setCell w4 ⟨rb,0,none⟩ _ k ?_)
  have hk4:=K4.out.at_
  rintro rfl
  rcases hk4 with h1|⟨b,h1,h2⟩
  ·exact N3.out (h1.symm.trans hk)
  ·rw [h1] at hk
   injection hk with hk
   have:=B3.out.size
   have:=S3.out
   omega
 ·have b1:=K4.out.below
  have b0 : Below g0 w2 (w2.alloc (.cells #[.int .i64 x] 3)):=lower_ (Nat.le_of_lt (Nat.lt_of_le_of_lt HG.out S3.out)) B3.out
  exact (b0.trans b1).trans ⟨rfl,rfl,rfl,by rw [World.size_setCell];exact Nat.le_refl _,fun k hk => Below.heap_setCell w4 ⟨rb,0,none⟩ _ k (by have:=HG.out;show k ≠ rb;omega)⟩
 ·intro k hk hkr hkv
  exact (Below.heap_setCell w4 ⟨rb,0,none⟩ _ k hkr).trans ((K4.out.keep k (Nat.lt_of_lt_of_le hk B3.out.size) hkv).trans (B3.out.block k hk))
 ·have eo : ∀ n : Nat,(Value.slice A2 n c2).ownBlock = (Value.slice A2 0 c2).ownBlock:=fun n => by cases A2 <;> rfl
  have hk4:=K4.out.at_
  rw [eo] at hk4 ⊢
  rcases hk4 with h1|⟨b,h1,h2⟩
  ·exact .inl h1
  ·exact .inr ⟨b,h1,Nat.le_trans B3.out.size h2⟩
end Go.Proofs.YtdmngdohlobogaaGreatDoor.Asc
end
