import Derived.Test.YtojepjkpnponoaaDoorKStim0
import Derived.Test.YtojepjkpnponoaaDoorKGV
namespace Go.Proofs.YtojepjkpnponoaaDoor.Stim
open Go.RowKit Go.Proofs.YtojepjkpnponoaaDoorW.PrintWords Go.Proofs.YtojepjkpnponoaaDoorW.PrintLast Go.Proofs.YtojepjkpnponoaaDoorW.PrintMore
attribute [local go_sem] max2_int min2_int max_two min_two max_three min_three max_four min_four
set_option linter.unusedVariables false
set_option linter.unusedSimpArgs false
def book_CT.l0 : Nat → Int → List Bool → List (List Bool) → Int → List Bool → List (List Bool) → Int → Option (List Bool × (List (List Bool)) × Int)
 |0,_,_,_,_,_,_,_ => none
 |k + 1,x4,x220000,x220001,x220002,x228000,x228001,x228002 => if x4 < (x220001.length : Int) then ((some (([] : List Bool) : List Bool)).bind fun y228 => (if 0 ≤ x4 then (if y228.length + (rd_L6 x220001 x4).length < 140737488355328 then (if x228001.length < 5864062014805 then (book_CT.l0 k (wrap64 (x4 + 1)) x220000 x220001 x220002 x228000 (x228001 ++ [(y228 ++ (rd_L6 x220001 x4))]) x228002) else (none)) else (none)) else (none))) else (some (x228000,x228001,x228002))
def book_CT.f (k : Nat) (l0_0 : List Bool) (l0_1 : List (List Bool)) (a0_2 : Int) : Option (List Bool × (List (List Bool)) × Int):=(some (([] : List Bool) : List Bool)).bind fun y221 => (if y221.length + l0_0.length < 140737488355328 then (book_CT.l0 k 0 l0_0 l0_1 a0_2 (y221 ++ l0_0) ([] : List (List Bool)) a0_2) else (none))
theorem book_CT.mono_l : ∀ k,(∀ y0 y1 y2 y3 y4 y5 y6,LeO (book_CT.l0 k y0 y1 y2 y3 y4 y5 y6) (book_CT.l0 (k + 1) y0 y1 y2 y3 y4 y5 y6))
 |0 => fun _ _ _ _ _ _ _ r h => by simp [book_CT.l0] at h
 |k + 1 => by
  have ih0:=book_CT.mono_l k
  ·intro y0 y1 y2 y3 y4 y5 y6
   unfold book_CT.l0
   repeat' first
   |(with_reducible exact ih0 _ _ _ _ _ _ _)
   |(with_reducible exact LeO.refl _)
   |(with_reducible exact LeO.none _)
   |(with_reducible refine LeO.ite ?_ ?_)
   |(with_reducible refine LeO.bind ?_ (fun _ => ?_))
   |exact ih0 _ _ _ _ _ _ _
   |exact LeO.none _
   |refine LeO.ite ?_ ?_
   |refine LeO.bind ?_ (fun _ => ?_)
theorem book_CT.mono : ∀ a0 a1 a2 k,LeO (book_CT.f k a0 a1 a2) (book_CT.f (k + 1) a0 a1 a2):=by
 intro a0 a1 a2 k
 have ih0:=book_CT.mono_l k
 unfold book_CT.f
 repeat' first
   |(with_reducible exact ih0 _ _ _ _ _ _ _)
   |(with_reducible exact LeO.refl _)
   |(with_reducible exact LeO.none _)
   |(with_reducible refine LeO.ite ?_ ?_)
   |(with_reducible refine LeO.bind ?_ (fun _ => ?_))
   |exact ih0 _ _ _ _ _ _ _
   |exact LeO.none _
   |refine LeO.ite ?_ ?_
   |refine LeO.bind ?_ (fun _ => ?_)
def book_CT.T1 : Bool × List (List Nat × List Nat):=(true,[([],[]),([],[]),([1],[1]),([0,2],[0,2]),([],[]),([4],[4]),([3,5],[3,5]),([],[]),([7,6,3,0,1,2,3,4,5,6,7],[6,7])])
def book_CT.B1 : List Nat:=[0,0,2,7,0,16,63,0,255]
theorem book_CT.tab1 : rtab .any (opsOf Tryd.f12 1) = book_CT.T1:=by kernel_rfl
theorem book_CT.bits1 : waitsOk book_CT.T1.2 book_CT.B1 = true:=by kernel_rfl
def book_CT.T5 : Bool × List (List Nat × List Nat):=(true,[([],[]),([0],[0]),([],[]),([],[]),([3],[3]),([],[]),([4,5],[4,5]),([6],[6]),([2,7],[2,7]),([8],[8]),([1,9,8],[1,9]),([0,1,2,3,4,5,6,7,8,9,10],[]),([11,10,10,0,1,2,3,4,5,6,7,8,9,10],[10,11])])
def book_CT.B5 : List Nat:=[0,1,0,0,8,0,56,120,252,508,1023,2047,4095]
theorem book_CT.tab5 : rtab .any (opsOf Tryd.f12 5) = book_CT.T5:=by kernel_rfl
theorem book_CT.bits5 : waitsOk book_CT.T5.2 book_CT.B5 = true:=by kernel_rfl
set_option maxHeartbeats 8000000 in
set_option maxRecDepth 100000 in
theorem book_CT.calls (k : Nat) (A0_0 : Option Addr) (c0_0 : Nat) (l0_0 : List Bool) (A0_1 : Option Addr) (c0_1 : Nat) (l0_1 : List (List Bool)) (a0_2 : Int) (r1 : List Bool) (r2 : List (List Bool)) (r3 : Int) (w : World) (hr0_0 : Kd.C Kd.bool w A0_0 l0_0.length l0_0) (hc0_0 : l0_0.length ≤ c0_0) (hr0_1 : Kd.C (Kd.slice 4 Kd.bool) w A0_1 l0_1.length l0_1) (hc0_1 : l0_1.length ≤ c0_1) (h : book_CT.f k l0_0 l0_1 a0_2 = some (r1,r2,r3)) :
  Calls Tryd.prog 12 #[.agg #[.slice A0_0 l0_0.length c0_0,.slice A0_1 l0_1.length c0_1,.int .i64 a0_2]] w fun e w' => ∃ v0_ v1_ : Value,e = .returned (.agg #[v0_,v1_,.int .i64 r3]) ∧ Kd.R Kd.bool 4 w' w.heap.size (fun _ => True) v0_ r1 ∧ Kd.S (Kd.slice 4 Kd.bool) 23 w' w.heap.size (fun k_ => some k_ ≠ (v0_ : Value).ownBlock) v1_ r2 ∧ Below w.heap.size w w':=by
 have hu26:=Tryd.underlying26
 have HR0_0:=A0_.mk hr0_0
 have HC0_0:=A0_.mk hc0_0
 clear hr0_0 hc0_0
 have HR0_1:=A0_.mk hr0_1
 have HC0_1:=A0_.mk hc0_1
 clear hr0_1 hc0_1
 have HB:=A0_.mk (Below.refl w.heap.size w)
 have H : ((some (([] : List Bool) : List Bool)).bind fun y221 => (if y221.length + l0_0.length < 140737488355328 then (book_CT.l0 k 0 l0_0 l0_1 a0_2 (y221 ++ l0_0) ([] : List (List Bool)) a0_2) else (none))) = some (r1,r2,r3):=h
 clear h
 obtain ⟨y221,hy221⟩ : ∃ y_ : List Bool,y_ = (([] : List Bool)):=⟨_,rfl⟩
 replace H : (if y221.length + l0_0.length < 140737488355328 then (book_CT.l0 k 0 l0_0 l0_1 a0_2 (y221 ++ l0_0) ([] : List (List Bool)) a0_2) else (none)) = some (r1,r2,r3):=by first|(rw [hy221];with_reducible exact H)|(have H2_:=(Option.bind_some _ _).symm.trans H;rw [hy221];with_reducible exact H2_)|(have H2_:=(Option.bind_some _ _).symm.trans H;with_reducible exact H2_)|with_reducible exact H|(rw [hy221];exact H)|exact H
 have Ny221:=A0_.mk hy221
 clear hy221
 by_cases c2 : y221.length + l0_0.length < 140737488355328
 ·rw [if_pos c2] at H
  have LMc2:=A0_.mk c2
  clear c2
  obtain ⟨y224,hy224⟩ : ∃ y_ : List Bool,y_ = (y221 ++ l0_0):=⟨_,rfl⟩
  replace H : (book_CT.l0 k 0 l0_0 l0_1 a0_2 y224 ([] : List (List Bool)) a0_2) = some (r1,r2,r3):=by first|(rw [hy224];with_reducible exact H)|(have H2_:=(Option.bind_some _ _).symm.trans H;rw [hy224];with_reducible exact H2_)|(have H2_:=(Option.bind_some _ _).symm.trans H;with_reducible exact H2_)|with_reducible exact H|(rw [hy224];exact H)|exact H
  have Ny224:=A0_.mk hy224
  clear hy224
  have H':=A0_.mk H
  clear H
  go_enter Tryd.func12,Tryd.ntmps12
  try go_wp2_with (first|((with_reducible refine gate_dst (N:=1) rfl ?_);refine box_event ?hg (N:=1) ?hd (cs:=#[.slice A0_0 l0_0.length c0_0,.slice A0_1 l0_1.length c0_1,.int .i64 a0_2]) (t:=26) ?hr ?_;(case hd => rfl);(case hg => rfl);(case hr => first|(go_simp;done)|(go_simp;rfl));intro gb219 hg w3 hbox hb;have n0_:=A0_.mk (below_step (by repeat (first|(with_reducible first|exact HB.out|apply eA_|apply eN_|apply eD_)|exact HB.out)) hb);have n1_:=A0_.mk (hbox);have n2_:=A0_.mk ((by rw [hg];exact (below_size (by repeat (first|(with_reducible first|exact HB.out|apply eA_|apply eN_|apply eD_)|exact HB.out))) : w.heap.size ≤ gb219));have n3_:=A0_.mk ((by rw [hg];exact (below_size (by repeat (first|(with_reducible first|exact HB.out|apply eA_|apply eN_|apply eD_)|exact HB.out))) : w.heap.size ≤ gb219));clear HB;have HB:=n0_;have BK219:=n1_;have GW219:=n2_;have GE219:=n3_;clear n0_ n1_ n2_ n3_;clear hb hbox hg)|((with_reducible refine gate_dst (N:=2) rfl ?_);refine box_event ?hg (N:=2) ?hd (cs:=#[.slice none 0 0,.slice none 0 0,.int .i64 0]) (t:=26) ?hr ?_;(case hd => rfl);(case hg => rfl);(case hr => first|(go_simp;done)|(go_simp;rfl));intro gb220 hg w4 hbox hb;have n0_:=A0_.mk (blk_below (g:=gb219) (o:=.cells #[.slice A0_0 l0_0.length c0_0,.slice A0_1 l0_1.length c0_1,.int .i64 a0_2] 26 (0,0)) (by (with_reducible repeat (first|refine bN_ ?_ _|refine bD_ ?_|refine bA_ ?_ _));exact BK219.out) hb);have n1_:=A0_.mk (below_step (by repeat (first|(with_reducible first|exact HB.out|apply eA_|apply eN_|apply eD_|refine eS_ ?_ GE219.out)|exact HB.out)) hb);have n2_:=A0_.mk (hbox);have n3_:=A0_.mk ((by rw [hg];exact (below_size (by repeat (first|(with_reducible first|exact HB.out|apply eA_|apply eN_|apply eD_|refine eS_ ?_ GE219.out)|exact HB.out))) : w.heap.size ≤ gb220));have n4_:=A0_.mk ((by rw [hg];exact (below_size (by repeat (first|(with_reducible first|exact HB.out|apply eA_|apply eN_|apply eD_|refine eS_ ?_ GE219.out)|exact HB.out))) : w.heap.size ≤ gb220));have n5_:=A0_.mk ((by rw [hg];exact Nat.ne_of_lt (blk_lt (g:=gb219) (o:=.cells #[.slice A0_0 l0_0.length c0_0,.slice A0_1 l0_1.length c0_1,.int .i64 a0_2] 26 (0,0)) (by (with_reducible repeat (first|refine bN_ ?_ _|refine bD_ ?_|refine bA_ ?_ _));exact BK219.out)) : gb219 ≠ gb220));have n6_:=A0_.mk ((by rw [hg];exact Nat.ne_of_gt (blk_lt (g:=gb219) (o:=.cells #[.slice A0_0 l0_0.length c0_0,.slice A0_1 l0_1.length c0_1,.int .i64 a0_2] 26 (0,0)) (by (with_reducible repeat (first|refine bN_ ?_ _|refine bD_ ?_|refine bA_ ?_ _));exact BK219.out)) : gb220 ≠ gb219));clear BK219;clear HB;have BK219:=n0_;have HB:=n1_;have BK220:=n2_;have GW220:=n3_;have GE220:=n4_;have NB219_220:=n5_;have NB220_219:=n6_;clear n0_ n1_ n2_ n3_ n4_ n5_ n6_;clear hb hbox hg))
  have n0_:=A0_.mk (bD_ BK219.out)
  have n1_:=A0_.mk (bD_ BK220.out)
  have n2_:=A0_.mk (eD_ HB.out)
  clear BK219
  clear BK220
  clear HB
  have BK219:=n0_
  have BK220:=n1_
  have HB:=n2_
  clear n0_ n1_ n2_
  refine start_ (n:=9) (S:=fun w' => w'.cell? ⟨gb219,0,none⟩ = some (.slice A0_0 l0_0.length c0_0) ∧ w'.cell? ⟨gb219,1,none⟩ = some (.slice A0_1 l0_1.length c0_1) ∧ w'.cell? ⟨gb219,2,none⟩ = some (.int .i64 a0_2)) (ds:=[]) #[false,false,false,false,false,false,false,false,false] (by kernel_rfl) rfl rfl ⟨(bC_ BK219.out 0).trans rfl,(bC_ BK219.out 1).trans rfl,(bC_ BK219.out 2).trans rfl⟩ (fun hHeld => ?_);refine with_tabW book_CT.tab1 book_CT.bits1 (fun HT_ HW_ => ?_)
  generalize w4.drew = w5 at BK219 BK220 HB hHeld ⊢
  refine pure_ (i:=1) (N:=some 6) (v:=?_) (a':=?_) #[false,true,false,false,false,false,false,false,false] rfl rfl (any_of HT_.out (by kernel_rfl)) (fun _ _ _ h => h) (Or.inl ⟨by rfl,?_⟩) ?_ ?_
  rotate_left
  ·intro w'
   go_simp
   with_reducible rfl
  rotate_left
  ·simp only [Act.put,List.setIfInBounds_toArray,List.set_cons_zero,List.set_cons_succ,i64_w,i32_w]
   rfl
  refine pure_ (i:=4) (N:=some 9) (v:=?_) (a':=?_) #[false,true,false,false,true,false,false,false,false] rfl rfl (any_of HT_.out (by kernel_rfl)) (fun _ _ _ h => h) (Or.inl ⟨by rfl,?_⟩) ?_ ?_
  rotate_left
  ·intro w'
   go_simp
   with_reducible rfl
  rotate_left
  ·simp only [Act.put,List.setIfInBounds_toArray,List.set_cons_zero,List.set_cons_succ,i64_w,i32_w]
   rfl
  refine take_ (i:=2) (N:=some 7) (v:=?_) (a':=?_) #[false,true,true,false,true,false,false,false,false] rfl rfl (take_ofW HT_.out HW_.out (by kernel_rfl)) (fun _ _ _ h => h) (Or.inl ⟨by rfl,?_⟩) hHeld ?_ ?_
  rotate_left
  ·rintro w' ⟨s0,s1,s2⟩
   go_simp
   with_reducible rfl
  rotate_left
  ·simp only [Act.put,List.setIfInBounds_toArray,List.set_cons_zero,List.set_cons_succ,i64_w,i32_w]
   rfl
  refine take_ (i:=5) (N:=some 10) (v:=?_) (a':=?_) #[false,true,true,false,true,true,false,false,false] rfl rfl (take_ofW HT_.out HW_.out (by kernel_rfl)) (fun _ _ _ h => h) (Or.inl ⟨by rfl,?_⟩) hHeld ?_ ?_
  rotate_left
  ·rintro w' ⟨s0,s1,s2⟩
   go_simp
   with_reducible rfl
  rotate_left
  ·simp only [Act.put,List.setIfInBounds_toArray,List.set_cons_zero,List.set_cons_succ,i64_w,i32_w]
   rfl
  refine join_ (σ:=Value × Value × Nat) 1 #[true,true,true,true,true,true,true,true,false] (fun s_ => [(5,s_.1),(8,s_.2.1),(3,.pointer (some ⟨s_.2.2,0,none⟩)),(11,.agg #[s_.2.1,.slice none 0 0,.int .i64 a0_2])]) (fun s_ w' => (w'.cell? ⟨gb219,0,none⟩ = some (.slice A0_0 l0_0.length c0_0) ∧ w'.cell? ⟨gb219,1,none⟩ = some (.slice A0_1 l0_1.length c0_1) ∧ w'.cell? ⟨gb219,2,none⟩ = some (.int .i64 a0_2)) ∧ (Kd.R Kd.bool 4 w' w.heap.size (fun _ => True) s_.2.1 y224) ∧ (w'.heap[gb219]? = some (.cells #[.slice A0_0 l0_0.length c0_0,.slice A0_1 l0_1.length c0_1,.int .i64 a0_2] 26 (0,0))) ∧ (w'.heap[gb220]? = some (.cells #[.slice none 0 0,.slice none 0 0,.int .i64 0] 26 (0,0))) ∧ (w'.heap[s_.2.2]? = some (.cells #[.slice none 0 0,.slice none 0 0,.int .i64 0] 26 (0,0))) ∧ (w.heap.size ≤ s_.2.2) ∧ (w.heap.size ≤ s_.2.2) ∧ (gb219 ≠ s_.2.2) ∧ (s_.2.2 ≠ gb219) ∧ (gb220 ≠ s_.2.2) ∧ (s_.2.2 ≠ gb220) ∧ (Below w.heap.size w w')) ?_ ?_
  rotate_left
  ·intro hCont
   refine two_ (i:=0) (j:=7) (Ni:=some 5) (Nj:=some 3) #[true,true,true,false,true,true,false,false,false] #[false,true,true,false,true,true,false,true,false] rfl rfl rfl rfl (two_of HT_.out (by kernel_rfl)) (by decide) (by decide) (fun K hK => ?_) (fun K hK => ?_)
   ·skip
    refine Kd.R_lit_step Kd.bool _ 4 ?hg (N:=5) ?hd (xs:=([] : List Bool)) (inner:=[]) (ok:=fun _ => True) (okp:=fun _ => True) ?hr ?hp (fun _ hk => hk) trivial (Below.refl _ _) (Nat.le_refl _) (by simp) ?_;(case hd => rfl);(case hg => rfl);(case hr => first|(go_simp;done)|(go_simp;rfl));(case hp => exact (Reps.none _ _))
    intro v222 w6 ho7 hb hg_ hnew_
    clear hg_ hnew_
    (first|rw [← Ny221.out] at ho7|(simp only [Int.reduceToNat] at ho7;rw [← Ny221.out] at ho7))
    have n0_:=A0_.mk (Kd.R_lower ho7 (below_size (by repeat (first|(with_reducible first|exact HB.out|apply eA_|apply eN_|apply eD_|refine eS_ ?_ GE219.out|refine eS_ ?_ GE220.out)|exact HB.out))))
    have n1_:=A0_.mk (blk_below (g:=gb219) (o:=.cells #[.slice A0_0 l0_0.length c0_0,.slice A0_1 l0_1.length c0_1,.int .i64 a0_2] 26 (0,0)) (by (with_reducible repeat (first|refine bN_ ?_ _|refine bD_ ?_|refine bA_ ?_ _));exact BK219.out) hb)
    have n2_:=A0_.mk (blk_below (g:=gb220) (o:=.cells #[.slice none 0 0,.slice none 0 0,.int .i64 0] 26 (0,0)) (by (with_reducible repeat (first|refine bN_ ?_ _|refine bD_ ?_|refine bA_ ?_ _));exact BK220.out) hb)
    have n3_:=A0_.mk (below_step (by repeat (first|(with_reducible first|exact HB.out|apply eA_|apply eN_|apply eD_|refine eS_ ?_ GE219.out|refine eS_ ?_ GE220.out)|exact HB.out)) hb)
    clear BK219
    clear BK220
    clear HB
    have HO223:=n0_
    have BK219:=n1_
    have BK220:=n2_
    have HB:=n3_
    clear n0_ n1_ n2_ n3_
    clear hb ho7
    refine hK.out _ _ ⟨(bC_ BK219.out 0).trans rfl,(bC_ BK219.out 1).trans rfl,(bC_ BK219.out 2).trans rfl⟩ (fun hHeld => ?_)
    clear hK K
    refine norm_ (a':=?_) ?_ ?_
    rotate_left
    ·show Act.put _ (some 5) _ = _
     simp only [Act.put,List.setIfInBounds_toArray,List.set_cons_zero,List.set_cons_succ,i64_w,i32_w]
     rfl
    refine two_ (i:=3) (j:=7) (Ni:=some 8) (Nj:=some 3) #[true,true,true,true,true,true,false,false,false] #[true,true,true,false,true,true,false,true,false] rfl rfl rfl rfl (two_of HT_.out (by kernel_rfl)) (by decide) (by decide) (fun K hK => ?_) (fun K hK => ?_)
    ·skip
     refine Kd.R_append_rows_step Kd.bool (w0:=w) w.heap.size (by rfl) (.tmp 5) (.tmp 7) 23 4 (.bool false) 1 rfl Tryd.underlying23 info4 rfl (by decide) (by omega) v222 y221 l0_0 _ _ _ (fun _ => True) (fun _ => False) rfl rfl ?aO ?aR (fun _ _ h => h) (fun _ h => h.elim) ?aF ?aB ?aS ?aL ?_
     (case aR => repeat (first|exact (Kd.C_below HR0_0.out HB.out)|(with_reducible refine Kd.C_alloc ?_ _)|(with_reducible refine Kd.C_drewN ?_ _)|(with_reducible refine Kd.C_drew ?_)))
     (case aB => exact (by repeat (first|(with_reducible first|exact HB.out|apply eA_|apply eN_|apply eD_|refine eS_ ?_ GE219.out|refine eS_ ?_ GE220.out)|exact HB.out)))
     (case aF => exact (fun _ _ => trivial))
     (case aO => exact (by (with_reducible repeat (first|apply Kd.R_alloc|apply Kd.R_drewN|apply Kd.R_drew));exact HO223.out))
     (case aS => exact (below_size (by repeat (first|(with_reducible first|exact HB.out|apply eA_|apply eN_|apply eD_|refine eS_ ?_ GE219.out|refine eS_ ?_ GE220.out)|exact HB.out))))
     (case aL => have:=LMc2.out;omega)
     intro v225 w8 ho hb hg hat
     rw [← Ny224.out] at ho
     have n0_:=A0_.mk (blk_grown (g:=gb219) (o:=.cells #[.slice A0_0 l0_0.length c0_0,.slice A0_1 l0_1.length c0_1,.int .i64 a0_2] 26 (0,0)) (by (with_reducible repeat (first|refine bN_ ?_ _|refine bD_ ?_|refine bA_ ?_ _));exact BK219.out) hg (Kd.R_ne HO223.out BK219.out (by decide)))
     have n1_:=A0_.mk (blk_grown (g:=gb220) (o:=.cells #[.slice none 0 0,.slice none 0 0,.int .i64 0] 26 (0,0)) (by (with_reducible repeat (first|refine bN_ ?_ _|refine bD_ ?_|refine bA_ ?_ _));exact BK220.out) hg (Kd.R_ne HO223.out BK220.out (by decide)))
     have n2_:=A0_.mk (hb)
     have n3_:=A0_.mk (ho)
     clear BK219
     clear BK220
     clear HB
     clear HO223
     have BK219:=n0_
     have BK220:=n1_
     have HB:=n2_
     have HO226:=n3_
     clear n0_ n1_ n2_ n3_
     clear ho hb hg hat
     obtain ⟨Ao9,co9,eo9⟩:=Kd.R_slice HO226.out
     (first|subst eo9|(injection eo9 with f1_ f2_ f3_;have f4_:=f1_.symm;have f5_:=f3_.symm;clear f1_ f2_ f3_;subst f4_;subst f5_))
     refine hK.out _ _ ⟨(bC_ BK219.out 0).trans rfl,(bC_ BK219.out 1).trans rfl,(bC_ BK219.out 2).trans rfl⟩ (fun hHeld => ?_)
     clear hK K
     refine norm_ (a':=?_) ?_ ?_
     rotate_left
     ·show Act.put _ (some 8) _ = _
      simp only [Act.put,List.setIfInBounds_toArray,List.set_cons_zero,List.set_cons_succ,i64_w,i32_w]
      rfl
     refine pure_ (i:=6) (N:=some 11) (v:=?_) (a':=?_) #[true,true,true,true,true,true,true,false,false] rfl rfl (any_of HT_.out (by kernel_rfl)) (fun _ _ _ h => h) (Or.inl ⟨by rfl,?_⟩) ?_ ?_
     rotate_left
     ·intro w'
      go_simp
      with_reducible rfl
     rotate_left
     ·simp only [Act.put,List.setIfInBounds_toArray,List.set_cons_zero,List.set_cons_succ,i64_w,i32_w]
      rfl
     refine one_ (i:=7) (N:=some 3) #[true,true,true,true,true,true,true,true,false] rfl rfl (one_of HT_.out (by kernel_rfl)) (by decide) (fun K hK => ?_)
     refine box_step ?hg (N:=3) ?hd (cs:=#[.slice none 0 0,.slice none 0 0,.int .i64 0]) (t:=26) ?hr ?_;(case hd => rfl);(case hg => rfl);(case hr => first|(go_simp;done)|(go_simp;rfl))
     intro gb227 hg w10 hbox hb
     have n0_:=A0_.mk (Kd.R_below (by (with_reducible repeat (first|apply Kd.R_alloc|apply Kd.R_drewN|apply Kd.R_drew));exact HO226.out) hb)
     have n1_:=A0_.mk (blk_below (g:=gb219) (o:=.cells #[.slice A0_0 l0_0.length c0_0,.slice A0_1 l0_1.length c0_1,.int .i64 a0_2] 26 (0,0)) (by (with_reducible repeat (first|refine bN_ ?_ _|refine bD_ ?_|refine bA_ ?_ _));exact BK219.out) hb)
     have n2_:=A0_.mk (blk_below (g:=gb220) (o:=.cells #[.slice none 0 0,.slice none 0 0,.int .i64 0] 26 (0,0)) (by (with_reducible repeat (first|refine bN_ ?_ _|refine bD_ ?_|refine bA_ ?_ _));exact BK220.out) hb)
     have n3_:=A0_.mk (below_step (by repeat (first|(with_reducible first|exact HB.out|apply eA_|apply eN_|apply eD_|refine eS_ ?_ GE219.out|refine eS_ ?_ GE220.out)|exact HB.out)) hb)
     have n4_:=A0_.mk (hbox)
     have n5_:=A0_.mk ((by rw [hg];exact (below_size (by repeat (first|(with_reducible first|exact HB.out|apply eA_|apply eN_|apply eD_|refine eS_ ?_ GE219.out|refine eS_ ?_ GE220.out)|exact HB.out))) : w.heap.size ≤ gb227))
     have n6_:=A0_.mk ((by rw [hg];exact (below_size (by repeat (first|(with_reducible first|exact HB.out|apply eA_|apply eN_|apply eD_|refine eS_ ?_ GE219.out|refine eS_ ?_ GE220.out)|exact HB.out))) : w.heap.size ≤ gb227))
     have n7_:=A0_.mk ((by rw [hg];exact Nat.ne_of_lt (blk_lt (g:=gb219) (o:=.cells #[.slice A0_0 l0_0.length c0_0,.slice A0_1 l0_1.length c0_1,.int .i64 a0_2] 26 (0,0)) (by (with_reducible repeat (first|refine bN_ ?_ _|refine bD_ ?_|refine bA_ ?_ _));exact BK219.out)) : gb219 ≠ gb227))
     have n8_:=A0_.mk ((by rw [hg];exact Nat.ne_of_gt (blk_lt (g:=gb219) (o:=.cells #[.slice A0_0 l0_0.length c0_0,.slice A0_1 l0_1.length c0_1,.int .i64 a0_2] 26 (0,0)) (by (with_reducible repeat (first|refine bN_ ?_ _|refine bD_ ?_|refine bA_ ?_ _));exact BK219.out)) : gb227 ≠ gb219))
     have n9_:=A0_.mk ((by rw [hg];exact Nat.ne_of_lt (blk_lt (g:=gb220) (o:=.cells #[.slice none 0 0,.slice none 0 0,.int .i64 0] 26 (0,0)) (by (with_reducible repeat (first|refine bN_ ?_ _|refine bD_ ?_|refine bA_ ?_ _));exact BK220.out)) : gb220 ≠ gb227))
     have n10_:=A0_.mk ((by rw [hg];exact Nat.ne_of_gt (blk_lt (g:=gb220) (o:=.cells #[.slice none 0 0,.slice none 0 0,.int .i64 0] 26 (0,0)) (by (with_reducible repeat (first|refine bN_ ?_ _|refine bD_ ?_|refine bA_ ?_ _));exact BK220.out)) : gb227 ≠ gb220))
     clear HO226
     clear BK219
     clear BK220
     clear HB
     have HO226:=n0_
     have BK219:=n1_
     have BK220:=n2_
     have HB:=n3_
     have BK227:=n4_
     have GW227:=n5_
     have GE227:=n6_
     have NB219_227:=n7_
     have NB227_219:=n8_
     have NB220_227:=n9_
     have NB227_220:=n10_
     clear n0_ n1_ n2_ n3_ n4_ n5_ n6_ n7_ n8_ n9_ n10_
     clear hb hbox hg
     refine hK.out _ _ ⟨(bC_ BK219.out 0).trans rfl,(bC_ BK219.out 1).trans rfl,(bC_ BK219.out 2).trans rfl⟩ (fun hHeld => ?_)
     clear hK K
     refine norm_ (a':=?_) ?_ ?_
     rotate_left
     ·show Act.put _ (some 3) _ = _
      simp only [Act.put,List.setIfInBounds_toArray,List.set_cons_zero,List.set_cons_succ,i64_w,i32_w]
      rfl
     exact norm_ (by simp only [putAll,Act.put,List.setIfInBounds_toArray,List.set_cons_zero,List.set_cons_succ]) (hCont (v222,.slice Ao9 y224.length co9,gb227) _ ⟨hHeld,(by (with_reducible repeat (first|apply Kd.R_alloc|apply Kd.R_drewN|apply Kd.R_drew));exact HO226.out),(by (with_reducible repeat (first|refine bN_ ?_ _|refine bD_ ?_|refine bA_ ?_ _));exact BK219.out),(by (with_reducible repeat (first|refine bN_ ?_ _|refine bD_ ?_|refine bA_ ?_ _));exact BK220.out),(by (with_reducible repeat (first|refine bN_ ?_ _|refine bD_ ?_|refine bA_ ?_ _));exact BK227.out),GW227.out,GE227.out,NB219_227.out,NB227_219.out,NB220_227.out,NB227_220.out,(by repeat (first|(with_reducible first|exact HB.out|apply eA_|apply eN_|apply eD_|refine eS_ ?_ GE219.out|refine eS_ ?_ GE220.out|refine eS_ ?_ GE227.out)|exact HB.out))⟩)
    ·skip
     refine box_step ?hg (N:=3) ?hd (cs:=#[.slice none 0 0,.slice none 0 0,.int .i64 0]) (t:=26) ?hr ?_;(case hd => rfl);(case hg => rfl);(case hr => first|(go_simp;done)|(go_simp;rfl))
     intro gb227 hg w8 hbox hb
     have n0_:=A0_.mk (Kd.R_below (by (with_reducible repeat (first|apply Kd.R_alloc|apply Kd.R_drewN|apply Kd.R_drew));exact HO223.out) hb)
     have n1_:=A0_.mk (blk_below (g:=gb219) (o:=.cells #[.slice A0_0 l0_0.length c0_0,.slice A0_1 l0_1.length c0_1,.int .i64 a0_2] 26 (0,0)) (by (with_reducible repeat (first|refine bN_ ?_ _|refine bD_ ?_|refine bA_ ?_ _));exact BK219.out) hb)
     have n2_:=A0_.mk (blk_below (g:=gb220) (o:=.cells #[.slice none 0 0,.slice none 0 0,.int .i64 0] 26 (0,0)) (by (with_reducible repeat (first|refine bN_ ?_ _|refine bD_ ?_|refine bA_ ?_ _));exact BK220.out) hb)
     have n3_:=A0_.mk (below_step (by repeat (first|(with_reducible first|exact HB.out|apply eA_|apply eN_|apply eD_|refine eS_ ?_ GE219.out|refine eS_ ?_ GE220.out)|exact HB.out)) hb)
     have n4_:=A0_.mk (hbox)
     have n5_:=A0_.mk ((by rw [hg];exact (below_size (by repeat (first|(with_reducible first|exact HB.out|apply eA_|apply eN_|apply eD_|refine eS_ ?_ GE219.out|refine eS_ ?_ GE220.out)|exact HB.out))) : w.heap.size ≤ gb227))
     have n6_:=A0_.mk ((by rw [hg];exact (below_size (by repeat (first|(with_reducible first|exact HB.out|apply eA_|apply eN_|apply eD_|refine eS_ ?_ GE219.out|refine eS_ ?_ GE220.out)|exact HB.out))) : w.heap.size ≤ gb227))
     have n7_:=A0_.mk ((by rw [hg];exact Nat.ne_of_lt (blk_lt (g:=gb219) (o:=.cells #[.slice A0_0 l0_0.length c0_0,.slice A0_1 l0_1.length c0_1,.int .i64 a0_2] 26 (0,0)) (by (with_reducible repeat (first|refine bN_ ?_ _|refine bD_ ?_|refine bA_ ?_ _));exact BK219.out)) : gb219 ≠ gb227))
     have n8_:=A0_.mk ((by rw [hg];exact Nat.ne_of_gt (blk_lt (g:=gb219) (o:=.cells #[.slice A0_0 l0_0.length c0_0,.slice A0_1 l0_1.length c0_1,.int .i64 a0_2] 26 (0,0)) (by (with_reducible repeat (first|refine bN_ ?_ _|refine bD_ ?_|refine bA_ ?_ _));exact BK219.out)) : gb227 ≠ gb219))
     have n9_:=A0_.mk ((by rw [hg];exact Nat.ne_of_lt (blk_lt (g:=gb220) (o:=.cells #[.slice none 0 0,.slice none 0 0,.int .i64 0] 26 (0,0)) (by (with_reducible repeat (first|refine bN_ ?_ _|refine bD_ ?_|refine bA_ ?_ _));exact BK220.out)) : gb220 ≠ gb227))
     have n10_:=A0_.mk ((by rw [hg];exact Nat.ne_of_gt (blk_lt (g:=gb220) (o:=.cells #[.slice none 0 0,.slice none 0 0,.int .i64 0] 26 (0,0)) (by (with_reducible repeat (first|refine bN_ ?_ _|refine bD_ ?_|refine bA_ ?_ _));exact BK220.out)) : gb227 ≠ gb220))
     clear HO223
     clear BK219
     clear BK220
     clear HB
     have HO223:=n0_
     have BK219:=n1_
     have BK220:=n2_
     have HB:=n3_
     have BK227:=n4_
     have GW227:=n5_
     have GE227:=n6_
     have NB219_227:=n7_
     have NB227_219:=n8_
     have NB220_227:=n9_
     have NB227_220:=n10_
     clear n0_ n1_ n2_ n3_ n4_ n5_ n6_ n7_ n8_ n9_ n10_
     clear hb hbox hg
     refine hK.out _ _ ⟨(bC_ BK219.out 0).trans rfl,(bC_ BK219.out 1).trans rfl,(bC_ BK219.out 2).trans rfl⟩ (fun hHeld => ?_)
     clear hK K
     refine norm_ (a':=?_) ?_ ?_
     rotate_left
     ·show Act.put _ (some 3) _ = _
      simp only [Act.put,List.setIfInBounds_toArray,List.set_cons_zero,List.set_cons_succ,i64_w,i32_w]
      rfl
     refine one_ (i:=3) (N:=some 8) #[true,true,true,true,true,true,false,true,false] rfl rfl (one_of HT_.out (by kernel_rfl)) (by decide) (fun K hK => ?_)
     refine Kd.R_append_rows_step Kd.bool (w0:=w) w.heap.size (by rfl) (.tmp 5) (.tmp 7) 23 4 (.bool false) 1 rfl Tryd.underlying23 info4 rfl (by decide) (by omega) v222 y221 l0_0 _ _ _ (fun _ => True) (fun _ => False) rfl rfl ?aO ?aR (fun _ _ h => h) (fun _ h => h.elim) ?aF ?aB ?aS ?aL ?_
     (case aR => repeat (first|exact (Kd.C_below HR0_0.out HB.out)|(with_reducible refine Kd.C_alloc ?_ _)|(with_reducible refine Kd.C_drewN ?_ _)|(with_reducible refine Kd.C_drew ?_)))
     (case aB => exact (by repeat (first|(with_reducible first|exact HB.out|apply eA_|apply eN_|apply eD_|refine eS_ ?_ GE219.out|refine eS_ ?_ GE220.out|refine eS_ ?_ GE227.out)|exact HB.out)))
     (case aF => exact (fun _ _ => trivial))
     (case aO => exact (by (with_reducible repeat (first|apply Kd.R_alloc|apply Kd.R_drewN|apply Kd.R_drew));exact HO223.out))
     (case aS => exact (below_size (by repeat (first|(with_reducible first|exact HB.out|apply eA_|apply eN_|apply eD_|refine eS_ ?_ GE219.out|refine eS_ ?_ GE220.out|refine eS_ ?_ GE227.out)|exact HB.out))))
     (case aL => have:=LMc2.out;omega)
     intro v225 w9 ho hb hg hat
     rw [← Ny224.out] at ho
     have n0_:=A0_.mk (blk_grown (g:=gb219) (o:=.cells #[.slice A0_0 l0_0.length c0_0,.slice A0_1 l0_1.length c0_1,.int .i64 a0_2] 26 (0,0)) (by (with_reducible repeat (first|refine bN_ ?_ _|refine bD_ ?_|refine bA_ ?_ _));exact BK219.out) hg (Kd.R_ne HO223.out BK219.out (by decide)))
     have n1_:=A0_.mk (blk_grown (g:=gb220) (o:=.cells #[.slice none 0 0,.slice none 0 0,.int .i64 0] 26 (0,0)) (by (with_reducible repeat (first|refine bN_ ?_ _|refine bD_ ?_|refine bA_ ?_ _));exact BK220.out) hg (Kd.R_ne HO223.out BK220.out (by decide)))
     have n2_:=A0_.mk (blk_grown (g:=gb227) (o:=.cells #[.slice none 0 0,.slice none 0 0,.int .i64 0] 26 (0,0)) (by (with_reducible repeat (first|refine bN_ ?_ _|refine bD_ ?_|refine bA_ ?_ _));exact BK227.out) hg (Kd.R_ne HO223.out BK227.out (by decide)))
     have n3_:=A0_.mk (hb)
     have n4_:=A0_.mk (ho)
     clear BK219
     clear BK220
     clear BK227
     clear HB
     clear HO223
     have BK219:=n0_
     have BK220:=n1_
     have BK227:=n2_
     have HB:=n3_
     have HO226:=n4_
     clear n0_ n1_ n2_ n3_ n4_
     clear ho hb hg hat
     obtain ⟨Ao10,co10,eo10⟩:=Kd.R_slice HO226.out
     (first|subst eo10|(injection eo10 with f1_ f2_ f3_;have f4_:=f1_.symm;have f5_:=f3_.symm;clear f1_ f2_ f3_;subst f4_;subst f5_))
     refine hK.out _ _ ⟨(bC_ BK219.out 0).trans rfl,(bC_ BK219.out 1).trans rfl,(bC_ BK219.out 2).trans rfl⟩ (fun hHeld => ?_)
     clear hK K
     refine norm_ (a':=?_) ?_ ?_
     rotate_left
     ·show Act.put _ (some 8) _ = _
      simp only [Act.put,List.setIfInBounds_toArray,List.set_cons_zero,List.set_cons_succ,i64_w,i32_w]
      rfl
     refine pure_ (i:=6) (N:=some 11) (v:=?_) (a':=?_) #[true,true,true,true,true,true,true,true,false] rfl rfl (any_of HT_.out (by kernel_rfl)) (fun _ _ _ h => h) (Or.inl ⟨by rfl,?_⟩) ?_ ?_
     rotate_left
     ·intro w'
      go_simp
      with_reducible rfl
     rotate_left
     ·simp only [Act.put,List.setIfInBounds_toArray,List.set_cons_zero,List.set_cons_succ,i64_w,i32_w]
      rfl
     exact norm_ (by simp only [putAll,Act.put,List.setIfInBounds_toArray,List.set_cons_zero,List.set_cons_succ]) (hCont (v222,.slice Ao10 y224.length co10,gb227) _ ⟨hHeld,(by (with_reducible repeat (first|apply Kd.R_alloc|apply Kd.R_drewN|apply Kd.R_drew));exact HO226.out),(by (with_reducible repeat (first|refine bN_ ?_ _|refine bD_ ?_|refine bA_ ?_ _));exact BK219.out),(by (with_reducible repeat (first|refine bN_ ?_ _|refine bD_ ?_|refine bA_ ?_ _));exact BK220.out),(by (with_reducible repeat (first|refine bN_ ?_ _|refine bD_ ?_|refine bA_ ?_ _));exact BK227.out),GW227.out,GE227.out,NB219_227.out,NB227_219.out,NB220_227.out,NB227_220.out,(by repeat (first|(with_reducible first|exact HB.out|apply eA_|apply eN_|apply eD_|refine eS_ ?_ GE219.out|refine eS_ ?_ GE220.out|refine eS_ ?_ GE227.out)|exact HB.out))⟩)
   ·skip
    refine box_step ?hg (N:=3) ?hd (cs:=#[.slice none 0 0,.slice none 0 0,.int .i64 0]) (t:=26) ?hr ?_;(case hd => rfl);(case hg => rfl);(case hr => first|(go_simp;done)|(go_simp;rfl))
    intro gb227 hg w6 hbox hb
    have n0_:=A0_.mk (blk_below (g:=gb219) (o:=.cells #[.slice A0_0 l0_0.length c0_0,.slice A0_1 l0_1.length c0_1,.int .i64 a0_2] 26 (0,0)) (by (with_reducible repeat (first|refine bN_ ?_ _|refine bD_ ?_|refine bA_ ?_ _));exact BK219.out) hb)
    have n1_:=A0_.mk (blk_below (g:=gb220) (o:=.cells #[.slice none 0 0,.slice none 0 0,.int .i64 0] 26 (0,0)) (by (with_reducible repeat (first|refine bN_ ?_ _|refine bD_ ?_|refine bA_ ?_ _));exact BK220.out) hb)
    have n2_:=A0_.mk (below_step (by repeat (first|(with_reducible first|exact HB.out|apply eA_|apply eN_|apply eD_|refine eS_ ?_ GE219.out|refine eS_ ?_ GE220.out)|exact HB.out)) hb)
    have n3_:=A0_.mk (hbox)
    have n4_:=A0_.mk ((by rw [hg];exact (below_size (by repeat (first|(with_reducible first|exact HB.out|apply eA_|apply eN_|apply eD_|refine eS_ ?_ GE219.out|refine eS_ ?_ GE220.out)|exact HB.out))) : w.heap.size ≤ gb227))
    have n5_:=A0_.mk ((by rw [hg];exact (below_size (by repeat (first|(with_reducible first|exact HB.out|apply eA_|apply eN_|apply eD_|refine eS_ ?_ GE219.out|refine eS_ ?_ GE220.out)|exact HB.out))) : w.heap.size ≤ gb227))
    have n6_:=A0_.mk ((by rw [hg];exact Nat.ne_of_lt (blk_lt (g:=gb219) (o:=.cells #[.slice A0_0 l0_0.length c0_0,.slice A0_1 l0_1.length c0_1,.int .i64 a0_2] 26 (0,0)) (by (with_reducible repeat (first|refine bN_ ?_ _|refine bD_ ?_|refine bA_ ?_ _));exact BK219.out)) : gb219 ≠ gb227))
    have n7_:=A0_.mk ((by rw [hg];exact Nat.ne_of_gt (blk_lt (g:=gb219) (o:=.cells #[.slice A0_0 l0_0.length c0_0,.slice A0_1 l0_1.length c0_1,.int .i64 a0_2] 26 (0,0)) (by (with_reducible repeat (first|refine bN_ ?_ _|refine bD_ ?_|refine bA_ ?_ _));exact BK219.out)) : gb227 ≠ gb219))
    have n8_:=A0_.mk ((by rw [hg];exact Nat.ne_of_lt (blk_lt (g:=gb220) (o:=.cells #[.slice none 0 0,.slice none 0 0,.int .i64 0] 26 (0,0)) (by (with_reducible repeat (first|refine bN_ ?_ _|refine bD_ ?_|refine bA_ ?_ _));exact BK220.out)) : gb220 ≠ gb227))
    have n9_:=A0_.mk ((by rw [hg];exact Nat.ne_of_gt (blk_lt (g:=gb220) (o:=.cells #[.slice none 0 0,.slice none 0 0,.int .i64 0] 26 (0,0)) (by (with_reducible repeat (first|refine bN_ ?_ _|refine bD_ ?_|refine bA_ ?_ _));exact BK220.out)) : gb227 ≠ gb220))
    clear BK219
    clear BK220
    clear HB
    have BK219:=n0_
    have BK220:=n1_
    have HB:=n2_
    have BK227:=n3_
    have GW227:=n4_
    have GE227:=n5_
    have NB219_227:=n6_
    have NB227_219:=n7_
    have NB220_227:=n8_
    have NB227_220:=n9_
    clear n0_ n1_ n2_ n3_ n4_ n5_ n6_ n7_ n8_ n9_
    clear hb hbox hg
    refine hK.out _ _ ⟨(bC_ BK219.out 0).trans rfl,(bC_ BK219.out 1).trans rfl,(bC_ BK219.out 2).trans rfl⟩ (fun hHeld => ?_)
    clear hK K
    refine norm_ (a':=?_) ?_ ?_
    rotate_left
    ·show Act.put _ (some 3) _ = _
     simp only [Act.put,List.setIfInBounds_toArray,List.set_cons_zero,List.set_cons_succ,i64_w,i32_w]
     rfl
    refine one_ (i:=0) (N:=some 5) #[true,true,true,false,true,true,false,true,false] rfl rfl (one_of HT_.out (by kernel_rfl)) (by decide) (fun K hK => ?_)
    refine Kd.R_lit_step Kd.bool _ 4 ?hg (N:=5) ?hd (xs:=([] : List Bool)) (inner:=[]) (ok:=fun _ => True) (okp:=fun _ => True) ?hr ?hp (fun _ hk => hk) trivial (Below.refl _ _) (Nat.le_refl _) (by simp) ?_;(case hd => rfl);(case hg => rfl);(case hr => first|(go_simp;done)|(go_simp;rfl));(case hp => exact (Reps.none _ _))
    intro v222 w7 ho8 hb hg_ hnew_
    clear hg_ hnew_
    (first|rw [← Ny221.out] at ho8|(simp only [Int.reduceToNat] at ho8;rw [← Ny221.out] at ho8))
    have n0_:=A0_.mk (Kd.R_lower ho8 (below_size (by repeat (first|(with_reducible first|exact HB.out|apply eA_|apply eN_|apply eD_|refine eS_ ?_ GE219.out|refine eS_ ?_ GE220.out|refine eS_ ?_ GE227.out)|exact HB.out))))
    have n1_:=A0_.mk (blk_below (g:=gb219) (o:=.cells #[.slice A0_0 l0_0.length c0_0,.slice A0_1 l0_1.length c0_1,.int .i64 a0_2] 26 (0,0)) (by (with_reducible repeat (first|refine bN_ ?_ _|refine bD_ ?_|refine bA_ ?_ _));exact BK219.out) hb)
    have n2_:=A0_.mk (blk_below (g:=gb220) (o:=.cells #[.slice none 0 0,.slice none 0 0,.int .i64 0] 26 (0,0)) (by (with_reducible repeat (first|refine bN_ ?_ _|refine bD_ ?_|refine bA_ ?_ _));exact BK220.out) hb)
    have n3_:=A0_.mk (blk_below (g:=gb227) (o:=.cells #[.slice none 0 0,.slice none 0 0,.int .i64 0] 26 (0,0)) (by (with_reducible repeat (first|refine bN_ ?_ _|refine bD_ ?_|refine bA_ ?_ _));exact BK227.out) hb)
    have n4_:=A0_.mk (below_step (by repeat (first|(with_reducible first|exact HB.out|apply eA_|apply eN_|apply eD_|refine eS_ ?_ GE219.out|refine eS_ ?_ GE220.out|refine eS_ ?_ GE227.out)|exact HB.out)) hb)
    clear BK219
    clear BK220
    clear BK227
    clear HB
    have HO223:=n0_
    have BK219:=n1_
    have BK220:=n2_
    have BK227:=n3_
    have HB:=n4_
    clear n0_ n1_ n2_ n3_ n4_
    clear hb ho8
    refine hK.out _ _ ⟨(bC_ BK219.out 0).trans rfl,(bC_ BK219.out 1).trans rfl,(bC_ BK219.out 2).trans rfl⟩ (fun hHeld => ?_)
    clear hK K
    refine norm_ (a':=?_) ?_ ?_
    rotate_left
    ·show Act.put _ (some 5) _ = _
     simp only [Act.put,List.setIfInBounds_toArray,List.set_cons_zero,List.set_cons_succ,i64_w,i32_w]
     rfl
    refine one_ (i:=3) (N:=some 8) #[true,true,true,true,true,true,false,true,false] rfl rfl (one_of HT_.out (by kernel_rfl)) (by decide) (fun K hK => ?_)
    refine Kd.R_append_rows_step Kd.bool (w0:=w) w.heap.size (by rfl) (.tmp 5) (.tmp 7) 23 4 (.bool false) 1 rfl Tryd.underlying23 info4 rfl (by decide) (by omega) v222 y221 l0_0 _ _ _ (fun _ => True) (fun _ => False) rfl rfl ?aO ?aR (fun _ _ h => h) (fun _ h => h.elim) ?aF ?aB ?aS ?aL ?_
    (case aR => repeat (first|exact (Kd.C_below HR0_0.out HB.out)|(with_reducible refine Kd.C_alloc ?_ _)|(with_reducible refine Kd.C_drewN ?_ _)|(with_reducible refine Kd.C_drew ?_)))
    (case aB => exact (by repeat (first|(with_reducible first|exact HB.out|apply eA_|apply eN_|apply eD_|refine eS_ ?_ GE219.out|refine eS_ ?_ GE220.out|refine eS_ ?_ GE227.out)|exact HB.out)))
    (case aF => exact (fun _ _ => trivial))
    (case aO => exact (by (with_reducible repeat (first|apply Kd.R_alloc|apply Kd.R_drewN|apply Kd.R_drew));exact HO223.out))
    (case aS => exact (below_size (by repeat (first|(with_reducible first|exact HB.out|apply eA_|apply eN_|apply eD_|refine eS_ ?_ GE219.out|refine eS_ ?_ GE220.out|refine eS_ ?_ GE227.out)|exact HB.out))))
    (case aL => have:=LMc2.out;omega)
    intro v225 w9 ho hb hg hat
    rw [← Ny224.out] at ho
    have n0_:=A0_.mk (blk_grown (g:=gb219) (o:=.cells #[.slice A0_0 l0_0.length c0_0,.slice A0_1 l0_1.length c0_1,.int .i64 a0_2] 26 (0,0)) (by (with_reducible repeat (first|refine bN_ ?_ _|refine bD_ ?_|refine bA_ ?_ _));exact BK219.out) hg (Kd.R_ne HO223.out BK219.out (by decide)))
    have n1_:=A0_.mk (blk_grown (g:=gb220) (o:=.cells #[.slice none 0 0,.slice none 0 0,.int .i64 0] 26 (0,0)) (by (with_reducible repeat (first|refine bN_ ?_ _|refine bD_ ?_|refine bA_ ?_ _));exact BK220.out) hg (Kd.R_ne HO223.out BK220.out (by decide)))
    have n2_:=A0_.mk (blk_grown (g:=gb227) (o:=.cells #[.slice none 0 0,.slice none 0 0,.int .i64 0] 26 (0,0)) (by (with_reducible repeat (first|refine bN_ ?_ _|refine bD_ ?_|refine bA_ ?_ _));exact BK227.out) hg (Kd.R_ne HO223.out BK227.out (by decide)))
    have n3_:=A0_.mk (hb)
    have n4_:=A0_.mk (ho)
    clear BK219
    clear BK220
    clear BK227
    clear HB
    clear HO223
    have BK219:=n0_
    have BK220:=n1_
    have BK227:=n2_
    have HB:=n3_
    have HO226:=n4_
    clear n0_ n1_ n2_ n3_ n4_
    clear ho hb hg hat
    obtain ⟨Ao10,co10,eo10⟩:=Kd.R_slice HO226.out
    (first|subst eo10|(injection eo10 with f1_ f2_ f3_;have f4_:=f1_.symm;have f5_:=f3_.symm;clear f1_ f2_ f3_;subst f4_;subst f5_))
    refine hK.out _ _ ⟨(bC_ BK219.out 0).trans rfl,(bC_ BK219.out 1).trans rfl,(bC_ BK219.out 2).trans rfl⟩ (fun hHeld => ?_)
    clear hK K
    refine norm_ (a':=?_) ?_ ?_
    rotate_left
    ·show Act.put _ (some 8) _ = _
     simp only [Act.put,List.setIfInBounds_toArray,List.set_cons_zero,List.set_cons_succ,i64_w,i32_w]
     rfl
    refine pure_ (i:=6) (N:=some 11) (v:=?_) (a':=?_) #[true,true,true,true,true,true,true,true,false] rfl rfl (any_of HT_.out (by kernel_rfl)) (fun _ _ _ h => h) (Or.inl ⟨by rfl,?_⟩) ?_ ?_
    rotate_left
    ·intro w'
     go_simp
     with_reducible rfl
    rotate_left
    ·simp only [Act.put,List.setIfInBounds_toArray,List.set_cons_zero,List.set_cons_succ,i64_w,i32_w]
     rfl
    exact norm_ (by simp only [putAll,Act.put,List.setIfInBounds_toArray,List.set_cons_zero,List.set_cons_succ]) (hCont (v222,.slice Ao10 y224.length co10,gb227) _ ⟨hHeld,(by (with_reducible repeat (first|apply Kd.R_alloc|apply Kd.R_drewN|apply Kd.R_drew));exact HO226.out),(by (with_reducible repeat (first|refine bN_ ?_ _|refine bD_ ?_|refine bA_ ?_ _));exact BK219.out),(by (with_reducible repeat (first|refine bN_ ?_ _|refine bD_ ?_|refine bA_ ?_ _));exact BK220.out),(by (with_reducible repeat (first|refine bN_ ?_ _|refine bD_ ?_|refine bA_ ?_ _));exact BK227.out),GW227.out,GE227.out,NB219_227.out,NB227_219.out,NB220_227.out,NB227_220.out,(by repeat (first|(with_reducible first|exact HB.out|apply eA_|apply eN_|apply eD_|refine eS_ ?_ GE219.out|refine eS_ ?_ GE220.out|refine eS_ ?_ GE227.out)|exact HB.out))⟩)
  rintro ⟨v222,v225,gb227⟩ w11 ⟨hS_,h0_,h1_,h2_,h3_,h4_,h5_,h6_,h7_,h8_,h9_,h10_⟩
  have n0_ : A0_ (Kd.R Kd.bool 4 w11 w.heap.size (fun _ => True) v225 y224):=⟨h0_⟩
  have n1_ : A0_ (w11.heap[gb219]? = some (.cells #[.slice A0_0 l0_0.length c0_0,.slice A0_1 l0_1.length c0_1,.int .i64 a0_2] 26 (0,0))):=⟨h1_⟩
  have n2_ : A0_ (w11.heap[gb220]? = some (.cells #[.slice none 0 0,.slice none 0 0,.int .i64 0] 26 (0,0))):=⟨h2_⟩
  have n3_ : A0_ (w11.heap[gb227]? = some (.cells #[.slice none 0 0,.slice none 0 0,.int .i64 0] 26 (0,0))):=⟨h3_⟩
  have n4_ : A0_ (w.heap.size ≤ gb227):=⟨h4_⟩
  have n5_ : A0_ (w.heap.size ≤ gb227):=⟨h5_⟩
  have n6_ : A0_ (gb219 ≠ gb227):=⟨h6_⟩
  have n7_ : A0_ (gb227 ≠ gb219):=⟨h7_⟩
  have n8_ : A0_ (gb220 ≠ gb227):=⟨h8_⟩
  have n9_ : A0_ (gb227 ≠ gb220):=⟨h9_⟩
  have n10_ : A0_ (Below w.heap.size w w11):=⟨h10_⟩
  clear BK219
  clear BK220
  clear HB
  clear h0_ h1_ h2_ h3_ h4_ h5_ h6_ h7_ h8_ h9_ h10_
  have HO226:=n0_
  have BK219:=n1_
  have BK220:=n2_
  have BK227:=n3_
  have GW227:=n4_
  have GE227:=n5_
  have NB219_227:=n6_
  have NB227_219:=n7_
  have NB220_227:=n8_
  have NB227_220:=n9_
  have HB:=n10_
  clear n0_ n1_ n2_ n3_ n4_ n5_ n6_ n7_ n8_ n9_ n10_
  have hHeld : w11.cell? ⟨gb219,0,none⟩ = some (.slice A0_0 l0_0.length c0_0) ∧ w11.cell? ⟨gb219,1,none⟩ = some (.slice A0_1 l0_1.length c0_1) ∧ w11.cell? ⟨gb219,2,none⟩ = some (.int .i64 a0_2):=hS_
  obtain ⟨Ao12,co12,eo12⟩:=Kd.R_slice HO226.out
  (first|subst eo12|(injection eo12 with f1_ f2_ f3_;have f4_:=f1_.symm;have f5_:=f3_.symm;clear f1_ f2_ f3_;subst f4_;subst f5_))
  refine norm_ (a':=?_) ?_ ?_
  rotate_left
  ·simp only [putAll,Act.put,List.setIfInBounds_toArray,List.set_cons_zero,List.set_cons_succ]
   rfl
  refine one_ (i:=8) (N:=none) #[true,true,true,true,true,true,true,true,true] rfl rfl (one_of HT_.out (by kernel_rfl)) (by decide) (fun K hK => ?_)
  have hs13 : w11.cell? ⟨gb227,0,none⟩ = some (.slice none 0 0):=(bC_ BK227.out 0).trans rfl
  have hfs13:=bF_ BK227.out 0
  have hns13_0:=NB219_227.out
  have hns13_1:=NB220_227.out
  have hms13_0:=NB227_219.out
  have hms13_1:=NB227_220.out
  have hs14 : w11.cell? ⟨gb227,1,none⟩ = some (.slice none 0 0):=(bC_ BK227.out 1).trans rfl
  have hfs14:=bF_ BK227.out 1
  have hns14_0:=NB219_227.out
  have hns14_1:=NB220_227.out
  have hms14_0:=NB227_219.out
  have hms14_1:=NB227_220.out
  have hs15 : w11.cell? ⟨gb227,2,none⟩ = some (.int .i64 0):=(bC_ BK227.out 2).trans rfl
  have hfs15:=bF_ BK227.out 2
  have hns15_0:=NB219_227.out
  have hns15_1:=NB220_227.out
  have hms15_0:=NB227_219.out
  have hms15_1:=NB227_220.out
  refine skip_ (w1:=?_) (by rfl) rfl ?_ ?_
  rotate_left
  ·go_simp
   rfl
  refine hK.out _ _ ⟨((cell_far (p:=⟨gb227,_,none⟩) NB219_227.out _).trans (((cell_far (p:=⟨gb227,_,none⟩) NB219_227.out _).trans (((cell_far (p:=⟨gb227,_,none⟩) NB219_227.out _).trans (hHeld.1)))))),((cell_far (p:=⟨gb227,_,none⟩) NB219_227.out _).trans (((cell_far (p:=⟨gb227,_,none⟩) NB219_227.out _).trans (((cell_far (p:=⟨gb227,_,none⟩) NB219_227.out _).trans (hHeld.2.1)))))),((cell_far (p:=⟨gb227,_,none⟩) NB219_227.out _).trans (((cell_far (p:=⟨gb227,_,none⟩) NB219_227.out _).trans (((cell_far (p:=⟨gb227,_,none⟩) NB219_227.out _).trans (hHeld.2.2))))))⟩ (fun hHeld => ?_)
  clear hK K
  refine done_ (done_of HT_.out (by kernel_rfl)) ?_
  try go_wp2
  (try simp only [Act.put,List.setIfInBounds_toArray,List.set_cons_zero,List.set_cons_succ])
  go_loopg [4] k (fun kq v4 w' => ∃ (x4_1 : Int) (x228001_1 : List (List Bool)) (u228001 : Value),v4 = .int .i64 x4_1 ∧ A0_ (book_CT.l0 kq x4_1 l0_0 l0_1 a0_2 y224 x228001_1 a0_2 = some (r1,r2,r3)) ∧ A0_ (kq ≤ k) ∧ A0_ (Kd.R Kd.bool 4 w' w.heap.size (fun _ => True) (.slice Ao12 y224.length co12) y224) ∧ A0_ (Kd.S (Kd.slice 4 Kd.bool) 23 w' w.heap.size (fun k_ => some k_ ≠ ((.slice Ao12 y224.length co12) : Value).ownBlock) u228001 x228001_1) ∧ A0_ (w'.heap[gb219]? = some (.cells #[(.slice A0_0 l0_0.length c0_0),(.slice A0_1 l0_1.length c0_1),.int .i64 a0_2] 26 (0,0))) ∧ A0_ (w'.heap[gb220]? = some (.cells #[(.slice none 0 0),(.slice none 0 0),.int .i64 0] 26 (0,0))) ∧ A0_ (w'.heap[gb227]? = some (.cells #[(.slice Ao12 y224.length co12),u228001,.int .i64 a0_2] 26 (0,0))) ∧ A0_ (Below w.heap.size w w'))
  case atStart => exact ⟨(0),(([] : List (List Bool))),(.slice none 0 0),(by first|rfl|(simp;done)|(simp [*];done)),H',⟨Nat.le_refl _⟩,⟨by (with_reducible repeat (first|apply Kd.R_alloc|apply Kd.R_drewN|apply Kd.R_drew));exact Kd.R_mono (Kd.R_far (p:=⟨gb227,2,none⟩) (Kd.R_far (p:=⟨gb227,1,none⟩) (Kd.R_far (p:=⟨gb227,0,none⟩) (Kd.R_types HO226.out BK227.out (by decide)) (fun _ hk => hk.2) (.slice Ao12 y224.length co12)) (fun _ hk => hk.2) (.slice none 0 0)) (fun _ hk => hk.2) (.int .i64 a0_2)) (fun _ hk => trivial)⟩,⟨by first|exact Kd.S_nil _ _ _ _ _|exact Kd.N_nil _ _ _ _ _|exact Kd.V_nil _ _ _ _ _|exact Kd.Q_nil _ _ _ _ _|exact Kd.R_nil _ _ _ _ _⟩,⟨by (with_reducible repeat (first|refine bN_ ?_ _|refine bD_ ?_|refine bA_ ?_ _));refine blk_far ?_ NB219_227.out _;(with_reducible repeat (first|refine bN_ ?_ _|refine bD_ ?_|refine bA_ ?_ _));refine blk_far ?_ NB219_227.out _;(with_reducible repeat (first|refine bN_ ?_ _|refine bD_ ?_|refine bA_ ?_ _));refine blk_far ?_ NB219_227.out _;(with_reducible repeat (first|refine bN_ ?_ _|refine bD_ ?_|refine bA_ ?_ _));exact BK219.out⟩,⟨by (with_reducible repeat (first|refine bN_ ?_ _|refine bD_ ?_|refine bA_ ?_ _));refine blk_far ?_ NB220_227.out _;(with_reducible repeat (first|refine bN_ ?_ _|refine bD_ ?_|refine bA_ ?_ _));refine blk_far ?_ NB220_227.out _;(with_reducible repeat (first|refine bN_ ?_ _|refine bD_ ?_|refine bA_ ?_ _));refine blk_far ?_ NB220_227.out _;(with_reducible repeat (first|refine bN_ ?_ _|refine bD_ ?_|refine bA_ ?_ _));exact BK220.out⟩,⟨by (with_reducible repeat (first|refine bN_ ?_ _|refine bD_ ?_|refine bA_ ?_ _));refine blk_put (cs:=#[.slice Ao12 y224.length co12,.slice none 0 0,.int .i64 0]) ?_ 2 _ rfl;(with_reducible repeat (first|refine bN_ ?_ _|refine bD_ ?_|refine bA_ ?_ _));refine blk_put (cs:=#[.slice Ao12 y224.length co12,.slice none 0 0,.int .i64 0]) ?_ 1 _ rfl;(with_reducible repeat (first|refine bN_ ?_ _|refine bD_ ?_|refine bA_ ?_ _));refine blk_put (cs:=#[.slice none 0 0,.slice none 0 0,.int .i64 0]) ?_ 0 _ rfl;(with_reducible repeat (first|refine bN_ ?_ _|refine bD_ ?_|refine bA_ ?_ _));exact BK227.out⟩,⟨by repeat (first|(with_reducible first|exact HB.out|apply eA_|apply eN_|apply eD_|refine eS_ ?_ GE219.out|refine eS_ ?_ GE220.out|refine eS_ ?_ GE227.out)|exact HB.out)⟩⟩
  case round =>
   clear H'
   try clear c1
   try clear c2
   try clear p2
   try clear c12
   obtain ⟨x4_1,x228001_1,u228001,rfl,HA,HK1,HO_228000,HO_228001,BK219,BK220,BK227,HB⟩:=hrel
   cases gk with
   |zero => exact absurd HA.out (by simp [book_CT.l0])
   |succ k1 =>
    have H:=HA.out
    clear HA
    simp only [book_CT.l0] at H
    by_cases c16 : x4_1 < (l0_1.length : Int)
    ·rw [if_pos c16] at H
     have c16b0 : decide (x4_1 < (l0_1.length : Int)) = true:=decide_eq_true c16
     clear c16
     obtain ⟨y228,hy228⟩ : ∃ y_ : List Bool,y_ = (([] : List Bool)):=⟨_,rfl⟩
     replace H : (if 0 ≤ x4_1 then (if y228.length + (rd_L6 l0_1 x4_1).length < 140737488355328 then (if x228001_1.length < 5864062014805 then (book_CT.l0 k1 (wrap64 (x4_1 + 1)) l0_0 l0_1 a0_2 y224 (x228001_1 ++ [(y228 ++ (rd_L6 l0_1 x4_1))]) a0_2) else (none)) else (none)) else (none)) = some (r1,r2,r3):=by first|(rw [hy228];with_reducible exact H)|(have H2_:=(Option.bind_some _ _).symm.trans H;rw [hy228];with_reducible exact H2_)|(have H2_:=(Option.bind_some _ _).symm.trans H;with_reducible exact H2_)|with_reducible exact H|(rw [hy228];exact H)|exact H
     have Ny228:=A0_.mk hy228
     clear hy228
     by_cases c17 : 0 ≤ x4_1
     ·rw [if_pos c17] at H
      have c17b0 : decide (0 ≤ x4_1) = true:=decide_eq_true c17
      clear c17
      by_cases c18 : y228.length + (rd_L6 l0_1 x4_1).length < 140737488355328
      ·rw [if_pos c18] at H
       have LMc18:=A0_.mk c18
       clear c18
       obtain ⟨y232,hy232⟩ : ∃ y_ : List Bool,y_ = (y228 ++ (rd_L6 l0_1 x4_1)):=⟨_,rfl⟩
       replace H : (if x228001_1.length < 5864062014805 then (book_CT.l0 k1 (wrap64 (x4_1 + 1)) l0_0 l0_1 a0_2 y224 (x228001_1 ++ [y232]) a0_2) else (none)) = some (r1,r2,r3):=by first|(rw [hy232];with_reducible exact H)|(have H2_:=(Option.bind_some _ _).symm.trans H;rw [hy232];with_reducible exact H2_)|(have H2_:=(Option.bind_some _ _).symm.trans H;with_reducible exact H2_)|with_reducible exact H|(rw [hy232];exact H)|exact H
       have Ny232:=A0_.mk hy232
       clear hy232
       by_cases c19 : x228001_1.length < 5864062014805
       ·rw [if_pos c19] at H
        have LMc19:=A0_.mk c19
        clear c19
        obtain ⟨y235,hy235⟩ : ∃ y_ : List (List Bool),y_ = (x228001_1 ++ [y232]):=⟨_,rfl⟩
        replace H : (book_CT.l0 k1 (wrap64 (x4_1 + 1)) l0_0 l0_1 a0_2 y224 y235 a0_2) = some (r1,r2,r3):=by first|(rw [hy235];with_reducible exact H)|(have H2_:=(Option.bind_some _ _).symm.trans H;rw [hy235];with_reducible exact H2_)|(have H2_:=(Option.bind_some _ _).symm.trans H;with_reducible exact H2_)|with_reducible exact H|(rw [hy235];exact H)|exact H
        have Ny235:=A0_.mk hy235
        clear hy235
        have H':=A0_.mk H
        clear H
        have hnb20:=NB219_220.out
        have hnc20:=NB220_219.out
        have hnb21:=NB219_227.out
        have hnc21:=NB227_219.out
        have hcz22_0 : wr.cell? ⟨gb219,0,none⟩ = some (.slice A0_0 l0_0.length c0_0):=(bC_ BK219.out 0).trans rfl
        have hcz22_1 : wr.cell? ⟨gb219,1,none⟩ = some (.slice A0_1 l0_1.length c0_1):=(bC_ BK219.out 1).trans rfl
        have hcz22_2 : wr.cell? ⟨gb219,2,none⟩ = some (.int .i64 a0_2):=(bC_ BK219.out 2).trans rfl
        have hfz22_0:=bF_ BK219.out 0
        have hfz22_1:=bF_ BK219.out 1
        have hfz22_2:=bF_ BK219.out 2
        try go_wp2
        have n0_:=A0_.mk (Kd.R_drew HO_228000.out)
        have n1_:=A0_.mk (Kd.S_drew HO_228001.out)
        have n2_:=A0_.mk (bD_ BK219.out)
        have n3_:=A0_.mk (bD_ BK220.out)
        have n4_:=A0_.mk (bD_ BK227.out)
        have n5_:=A0_.mk (eD_ HB.out)
        clear HO_228000
        clear HO_228001
        clear BK219
        clear BK220
        clear BK227
        clear HB
        have HO_228000:=n0_
        have HO_228001:=n1_
        have BK219:=n2_
        have BK220:=n3_
        have BK227:=n4_
        have HB:=n5_
        clear n0_ n1_ n2_ n3_ n4_ n5_
        have p231 : 0 ≤ (x4_1 : Int):=of_decide_eq_true (by first|(with_reducible assumption)|assumption)
        have q231 : x4_1 < (l0_1.length : Int):=of_decide_eq_true (by first|(with_reducible assumption)|assumption)
        obtain ⟨ad231,A231_0,c231_0,e231,hx231_0,hl231_0,hi231_0⟩:=at_L6 HR0_1.out x4_1 p231 q231
        have hw231_0:=hx231_0
        cases e231
        replace hx231_0:=(HB.out.cell (World.block_lt_of_cell? w _ hx231_0)).trans hx231_0
        have HR231_0:=A0_.mk hi231_0
        have HC231_0:=A0_.mk hl231_0
        clear hi231_0 hl231_0
        replace p231:=eq_true p231
        replace q231:=eq_true q231
        refine start_ (n:=13) (S:=fun w' => w'.cell? ⟨gb227,0,none⟩ = some (.slice Ao12 y224.length co12) ∧ w'.cell? ⟨gb227,1,none⟩ = some (u228001) ∧ w'.cell? ⟨gb227,2,none⟩ = some (.int .i64 a0_2) ∧ w'.cell? ⟨gb219,0,none⟩ = some (.slice A0_0 l0_0.length c0_0) ∧ w'.cell? ⟨gb219,1,none⟩ = some (.slice (some ad231) l0_1.length c0_1) ∧ w'.cell? ⟨gb219,2,none⟩ = some (.int .i64 a0_2) ∧ w'.cell? (ad231.add (x4_1).toNat) = some (.slice A231_0 (rd_L6 l0_1 x4_1).length c231_0)) (ds:=[12]) #[false,false,false,false,false,false,false,false,false,false,false,false,false] (by kernel_rfl) rfl rfl ⟨(bC_ BK227.out 0).trans rfl,(bC_ BK227.out 1).trans rfl,(bC_ BK227.out 2).trans rfl,(bC_ BK219.out 0).trans rfl,(bC_ BK219.out 1).trans rfl,(bC_ BK219.out 2).trans rfl,((HB.out.cell (World.block_lt_of_cell? w _ hw231_0)).trans hw231_0)⟩ (fun hHeld => ?_);refine with_tabW book_CT.tab5 book_CT.bits5 (fun HT_ HW_ => ?_)
        generalize wr.drew = w23 at HO_228000 HO_228001 BK219 BK220 BK227 HB HR231_0 hx231_0 hHeld ⊢
        refine pure_ (i:=0) (N:=some 19) (v:=?_) (a':=?_) #[true,false,false,false,false,false,false,false,false,false,false,false,false] rfl rfl (any_of HT_.out (by kernel_rfl)) (fun _ _ _ h => h) (Or.inl ⟨by rfl,?_⟩) ?_ ?_
        rotate_left
        ·intro w'
         go_simp
         with_reducible rfl
        rotate_left
        ·simp only [Act.put,List.setIfInBounds_toArray,List.set_cons_zero,List.set_cons_succ,i64_w,i32_w]
         rfl
        refine pure_ (i:=3) (N:=some 22) (v:=?_) (a':=?_) #[true,false,false,true,false,false,false,false,false,false,false,false,false] rfl rfl (any_of HT_.out (by kernel_rfl)) (fun _ _ _ h => h) (Or.inl ⟨by rfl,?_⟩) ?_ ?_
        rotate_left
        ·intro w'
         go_simp
         with_reducible rfl
        rotate_left
        ·simp only [Act.put,List.setIfInBounds_toArray,List.set_cons_zero,List.set_cons_succ,i64_w,i32_w]
         rfl
        refine pure_ (i:=5) (N:=some 24) (v:=?_) (a':=?_) #[true,false,false,true,false,true,false,false,false,false,false,false,false] rfl rfl (any_of HT_.out (by kernel_rfl)) (fun _ _ _ h => h) (Or.inl ⟨by rfl,?_⟩) ?_ ?_
        rotate_left
        ·intro w'
         go_simp
         with_reducible rfl
        rotate_left
        ·simp only [Act.put,List.setIfInBounds_toArray,List.set_cons_zero,List.set_cons_succ,i64_w,i32_w]
         rfl
        refine take_ (i:=1) (N:=some 20) (v:=?_) (a':=?_) #[true,true,false,true,false,true,false,false,false,false,false,false,false] rfl rfl (take_ofW HT_.out HW_.out (by kernel_rfl)) (fun _ _ _ h => h) (Or.inl ⟨by rfl,?_⟩) hHeld ?_ ?_
        rotate_left
        ·rintro w' ⟨s0,s1,s2,s3,s4,s5,s6⟩
         go_simp
         with_reducible rfl
        rotate_left
        ·simp only [Act.put,List.setIfInBounds_toArray,List.set_cons_zero,List.set_cons_succ,i64_w,i32_w]
         rfl
        refine take_ (i:=4) (N:=some 23) (v:=?_) (a':=?_) #[true,true,false,true,true,true,false,false,false,false,false,false,false] rfl rfl (take_ofW HT_.out HW_.out (by kernel_rfl)) (fun _ _ _ h => h) (Or.inl ⟨by rfl,?_⟩) hHeld ?_ ?_
        rotate_left
        ·rintro w' ⟨s0,s1,s2,s3,s4,s5,s6⟩
         go_simp
         with_reducible rfl
        rotate_left
        ·simp only [Act.put,List.setIfInBounds_toArray,List.set_cons_zero,List.set_cons_succ,i64_w,i32_w]
         rfl
        refine pure_ (i:=6) (N:=some 25) (v:=?_) (a':=?_) #[true,true,false,true,true,true,true,false,false,false,false,false,false] rfl rfl (any_of HT_.out (by kernel_rfl)) (fun _ _ _ h => h) (Or.inl ⟨by rfl,?_⟩) ?_ ?_
        rotate_left
        ·intro w'
         go_simp
         with_reducible rfl
        rotate_left
        ·simp only [Act.put,List.setIfInBounds_toArray,List.set_cons_zero,List.set_cons_succ,i64_w,i32_w]
         rfl
        refine take_ (i:=7) (N:=some 26) (v:=?_) (a':=?_) #[true,true,false,true,true,true,true,true,false,false,false,false,false] rfl rfl (take_ofW HT_.out HW_.out (by kernel_rfl)) (fun _ _ _ h => h) (Or.inl ⟨by rfl,?_⟩) hHeld ?_ ?_
        rotate_left
        ·rintro w' ⟨s0,s1,s2,s3,s4,s5,s6⟩
         go_simp
         with_reducible rfl
        rotate_left
        ·simp only [Act.put,List.setIfInBounds_toArray,List.set_cons_zero,List.set_cons_succ,i64_w,i32_w]
         rfl
        refine one_ (i:=2) (N:=some 21) #[true,true,true,true,true,true,true,true,false,false,false,false,false] rfl rfl (one_of HT_.out (by kernel_rfl)) (by decide) (fun K hK => ?_)
        refine Kd.R_lit_step Kd.bool _ 4 ?hg (N:=21) ?hd (xs:=([] : List Bool)) (inner:=[]) (ok:=fun _ => True) (okp:=fun _ => True) ?hr ?hp (fun _ hk => hk) trivial (Below.refl _ _) (Nat.le_refl _) (by simp) ?_;(case hd => rfl);(case hg => rfl);(case hr => first|(go_simp;done)|(go_simp;rfl));(case hp => exact (Reps.none _ _))
        intro v229 w24 ho25 hb hg_ hnew_
        clear hg_ hnew_
        (first|rw [← Ny228.out] at ho25|(simp only [Int.reduceToNat] at ho25;rw [← Ny228.out] at ho25))
        have n0_:=A0_.mk (Kd.R_elder' (by (with_reducible repeat (first|apply Kd.R_alloc|apply Kd.R_drewN|apply Kd.R_drew));exact HO_228000.out) (Kd.R_base ho25) hb)
        have n1_:=A0_.mk (Kd.S_elder' (by (with_reducible repeat (first|apply Kd.S_alloc|apply Kd.S_drewN|apply Kd.S_drew));exact HO_228001.out) (Kd.R_base ho25) hb)
        have n2_:=A0_.mk (Kd.R_lower (Kd.R_new' ho25 (Kd.R_lt (by (with_reducible repeat (first|apply Kd.R_alloc|apply Kd.R_drewN|apply Kd.R_drew));exact HO_228000.out))) (below_size (by repeat (first|(with_reducible first|exact HB.out|apply eA_|apply eN_|apply eD_|refine eS_ ?_ GE219.out|refine eS_ ?_ GE220.out|refine eS_ ?_ GE227.out)|exact HB.out))))
        have n3_:=A0_.mk (blk_below (g:=gb219) (o:=.cells #[.slice A0_0 l0_0.length c0_0,.slice (some ad231) l0_1.length c0_1,.int .i64 a0_2] 26 (0,0)) (by (with_reducible repeat (first|refine bN_ ?_ _|refine bD_ ?_|refine bA_ ?_ _));exact BK219.out) hb)
        have n4_:=A0_.mk (blk_below (g:=gb220) (o:=.cells #[.slice none 0 0,.slice none 0 0,.int .i64 0] 26 (0,0)) (by (with_reducible repeat (first|refine bN_ ?_ _|refine bD_ ?_|refine bA_ ?_ _));exact BK220.out) hb)
        have n5_:=A0_.mk (blk_below (g:=gb227) (o:=.cells #[.slice Ao12 y224.length co12,u228001,.int .i64 a0_2] 26 (0,0)) (by (with_reducible repeat (first|refine bN_ ?_ _|refine bD_ ?_|refine bA_ ?_ _));exact BK227.out) hb)
        have n6_:=A0_.mk (below_step (by repeat (first|(with_reducible first|exact HB.out|apply eA_|apply eN_|apply eD_|refine eS_ ?_ GE219.out|refine eS_ ?_ GE220.out|refine eS_ ?_ GE227.out)|exact HB.out)) hb)
        clear HO_228000
        clear HO_228001
        clear BK219
        clear BK220
        clear BK227
        clear HB
        have HO_228000:=n0_
        have HO_228001:=n1_
        have HO230:=n2_
        have BK219:=n3_
        have BK220:=n4_
        have BK227:=n5_
        have HB:=n6_
        clear n0_ n1_ n2_ n3_ n4_ n5_ n6_
        clear hb ho25
        refine hK.out _ _ ⟨(bC_ BK227.out 0).trans rfl,(bC_ BK227.out 1).trans rfl,(bC_ BK227.out 2).trans rfl,(bC_ BK219.out 0).trans rfl,(bC_ BK219.out 1).trans rfl,(bC_ BK219.out 2).trans rfl,((HB.out.cell (World.block_lt_of_cell? w _ hw231_0)).trans hw231_0)⟩ (fun hHeld => ?_)
        clear hK K
        refine norm_ (a':=?_) ?_ ?_
        rotate_left
        ·show Act.put _ (some 21) _ = _
         simp only [Act.put,List.setIfInBounds_toArray,List.set_cons_zero,List.set_cons_succ,i64_w,i32_w]
         rfl
        refine one_ (i:=8) (N:=some 27) #[true,true,true,true,true,true,true,true,true,false,false,false,false] rfl rfl (one_of HT_.out (by kernel_rfl)) (by decide) (fun K hK => ?_)
        refine Kd.R_append_rows_step Kd.bool (w0:=w) w.heap.size (by rfl) (.tmp 21) (.tmp 26) 23 4 (.bool false) 1 rfl Tryd.underlying23 info4 rfl (by decide) (by omega) v229 y228 (rd_L6 l0_1 x4_1) _ _ _ (fun k_ => some k_ ≠ (.slice Ao12 y224.length co12 : Value).ownBlock) (fun _ => False) rfl rfl ?aO ?aR (fun _ _ h => h) (fun _ h => h.elim) ?aF ?aB ?aS ?aL ?_
        (case aR => repeat (first|exact (Kd.C_below HR231_0.out HB.out)|(with_reducible refine Kd.C_alloc ?_ _)|(with_reducible refine Kd.C_drewN ?_ _)|(with_reducible refine Kd.C_drew ?_)))
        (case aB => exact (by repeat (first|(with_reducible first|exact HB.out|apply eA_|apply eN_|apply eD_|refine eS_ ?_ GE219.out|refine eS_ ?_ GE220.out|refine eS_ ?_ GE227.out)|exact HB.out)))
        (case aF => exact (fun k_ hk => Kd.fresh' (Kd.R_lt (by (with_reducible repeat (first|apply Kd.R_alloc|apply Kd.R_drewN|apply Kd.R_drew));exact HO_228000.out)) k_ hk))
        (case aO => exact (by (with_reducible repeat (first|apply Kd.R_alloc|apply Kd.R_drewN|apply Kd.R_drew));exact Kd.R_mono HO230.out (fun _ hk => hk.2)))
        (case aS => exact (below_size (by repeat (first|(with_reducible first|exact HB.out|apply eA_|apply eN_|apply eD_|refine eS_ ?_ GE219.out|refine eS_ ?_ GE220.out|refine eS_ ?_ GE227.out)|exact HB.out))))
        (case aL => have:=LMc18.out;omega)
        intro v233 w26 ho hb hg hat
        rw [← Ny232.out] at ho
        have n0_:=A0_.mk (Kd.R_after (ok:=(fun _ => True)) (by (with_reducible repeat (first|apply Kd.R_alloc|apply Kd.R_drewN|apply Kd.R_drew));exact HO_228000.out) hg hat)
        have n1_:=A0_.mk (Kd.S_after (ok:=(fun k_ => some k_ ≠ (.slice Ao12 y224.length co12 : Value).ownBlock)) (by (with_reducible repeat (first|apply Kd.S_alloc|apply Kd.S_drewN|apply Kd.S_drew));exact HO_228001.out) hg hat)
        have n2_:=A0_.mk (blk_grown (g:=gb219) (o:=.cells #[.slice A0_0 l0_0.length c0_0,.slice (some ad231) l0_1.length c0_1,.int .i64 a0_2] 26 (0,0)) (by (with_reducible repeat (first|refine bN_ ?_ _|refine bD_ ?_|refine bA_ ?_ _));exact BK219.out) hg (Kd.R_ne HO230.out BK219.out (by decide)))
        have n3_:=A0_.mk (blk_grown (g:=gb220) (o:=.cells #[.slice none 0 0,.slice none 0 0,.int .i64 0] 26 (0,0)) (by (with_reducible repeat (first|refine bN_ ?_ _|refine bD_ ?_|refine bA_ ?_ _));exact BK220.out) hg (Kd.R_ne HO230.out BK220.out (by decide)))
        have n4_:=A0_.mk (blk_grown (g:=gb227) (o:=.cells #[.slice Ao12 y224.length co12,u228001,.int .i64 a0_2] 26 (0,0)) (by (with_reducible repeat (first|refine bN_ ?_ _|refine bD_ ?_|refine bA_ ?_ _));exact BK227.out) hg (Kd.R_ne HO230.out BK227.out (by decide)))
        have n5_:=A0_.mk (hb)
        have n6_:=A0_.mk (ho)
        clear HO_228000
        clear HO_228001
        clear BK219
        clear BK220
        clear BK227
        clear HB
        clear HO230
        have HO_228000:=n0_
        have HO_228001:=n1_
        have BK219:=n2_
        have BK220:=n3_
        have BK227:=n4_
        have HB:=n5_
        have HO234:=n6_
        clear n0_ n1_ n2_ n3_ n4_ n5_ n6_
        clear ho hb hg hat
        obtain ⟨Ao28,co28,eo28⟩:=Kd.R_slice HO234.out
        (first|subst eo28|(injection eo28 with f1_ f2_ f3_;have f4_:=f1_.symm;have f5_:=f3_.symm;clear f1_ f2_ f3_;subst f4_;subst f5_))
        refine hK.out _ _ ⟨(bC_ BK227.out 0).trans rfl,(bC_ BK227.out 1).trans rfl,(bC_ BK227.out 2).trans rfl,(bC_ BK219.out 0).trans rfl,(bC_ BK219.out 1).trans rfl,(bC_ BK219.out 2).trans rfl,((HB.out.cell (World.block_lt_of_cell? w _ hw231_0)).trans hw231_0)⟩ (fun hHeld => ?_)
        clear hK K
        refine norm_ (a':=?_) ?_ ?_
        rotate_left
        ·show Act.put _ (some 27) _ = _
         simp only [Act.put,List.setIfInBounds_toArray,List.set_cons_zero,List.set_cons_succ,i64_w,i32_w]
         rfl
        refine one_ (i:=9) (N:=some 28) #[true,true,true,true,true,true,true,true,true,true,false,false,false] rfl rfl (one_of HT_.out (by kernel_rfl)) (by decide) (fun K hK => ?_)
        refine value_ (w1:=?_) (v:=?_) (by rfl) rfl ?_ ?_
        rotate_left 2
        ·go_simp
         constructor
         ·rfl
         ·rfl
        refine hK.out _ _ ⟨(bC_ (bA_ BK227.out _) 0).trans rfl,(bC_ (bA_ BK227.out _) 1).trans rfl,(bC_ (bA_ BK227.out _) 2).trans rfl,(bC_ (bA_ BK219.out _) 0).trans rfl,(bC_ (bA_ BK219.out _) 1).trans rfl,(bC_ (bA_ BK219.out _) 2).trans rfl,(World.cell?_alloc_lt _ _ _ (World.block_lt_of_cell? _ _ (((HB.out.cell (World.block_lt_of_cell? w _ hw231_0)).trans hw231_0)))).trans (((HB.out.cell (World.block_lt_of_cell? w _ hw231_0)).trans hw231_0))⟩ (fun hHeld => ?_)
        clear hK K
        refine norm_ (a':=?_) ?_ ?_
        rotate_left
        ·show Act.put _ (some 28) _ = _
         simp only [Act.put,List.setIfInBounds_toArray,List.set_cons_zero,List.set_cons_succ,i64_w,i32_w]
         rfl
        refine one_ (i:=10) (N:=some 29) #[true,true,true,true,true,true,true,true,true,true,true,false,false] rfl rfl (one_of HT_.out (by kernel_rfl)) (by decide) (fun K hK => ?_)
        refine Kd.S_append_step (Kd.slice 4 Kd.bool) (w0:=w) w.heap.size (by rfl) (.tmp 20) (.tmp 28) 24 23 (.slice none 0 0) 24 rfl Tryd.underlying24 info23 rfl (by decide) (by omega) u228001 x228001_1 y232 [.slice Ao28 y232.length co28] (fun k_ => some k_ ≠ (.slice Ao12 y224.length co12 : Value).ownBlock) (fun k_ => some k_ = (.slice Ao28 y232.length co28 : Value).ownBlock) rfl rfl ?aP (fun k_ hk_ => ((Kd.R_mono (ok':=fun k_ => ((fun k_ => some k_ ≠ (.slice Ao12 y224.length co12 : Value).ownBlock)) k_ ∧ some k_ ≠ (u228001 : Value).ownBlock) (Kd.R_apart' (HO234.out) (Kd.S_typed HO_228001.out) (by decide)) (fun k_ hk => ⟨hk.1,hk.2⟩))).1 k_ hk_.symm) ?aF ?aO ?aB ?aS ?aL ?_
        (case aP => exact Kd.M_row (Kd.R_mono (Kd.R_tight rfl (Kd.R_mono (ok':=fun k_ => ((fun k_ => some k_ ≠ (.slice Ao12 y224.length co12 : Value).ownBlock)) k_ ∧ some k_ ≠ (u228001 : Value).ownBlock) (Kd.R_apart' (HO234.out) (Kd.S_typed HO_228001.out) (by decide)) (fun k_ hk => ⟨hk.1,hk.2⟩))) (fun _ h_ => h_)))
        (case aB => exact (by repeat (first|(with_reducible first|exact HB.out|apply eA_|apply eN_|apply eD_|refine eS_ ?_ GE219.out|refine eS_ ?_ GE220.out|refine eS_ ?_ GE227.out)|exact HB.out)))
        (case aF => exact (fun k_ hk => Kd.fresh' (Kd.R_lt (by (with_reducible repeat (first|apply Kd.R_alloc|apply Kd.R_drewN|apply Kd.R_drew));exact HO_228000.out)) k_ hk))
        (case aO => exact (by (with_reducible repeat (first|apply Kd.S_alloc|apply Kd.S_drewN|apply Kd.S_drew));exact Kd.S_mono HO_228001.out (fun k_ hk => ⟨hk.1,fun e_ => hk.2 e_⟩)))
        (case aS => exact (below_size (by repeat (first|(with_reducible first|exact HB.out|apply eA_|apply eN_|apply eD_|refine eS_ ?_ GE219.out|refine eS_ ?_ GE220.out|refine eS_ ?_ GE227.out)|exact HB.out))))
        (case aL => have:=LMc19.out;omega)
        intro v236 w27 ho hb hg hat
        rw [← Ny235.out] at ho
        have n0_:=A0_.mk (Kd.R_over' (by (with_reducible repeat (first|apply Kd.R_alloc|apply Kd.R_drewN|apply Kd.R_drew));exact HO_228000.out) (Kd.S_typed (by (with_reducible repeat (first|apply Kd.S_alloc|apply Kd.S_drewN|apply Kd.S_drew));exact HO_228001.out)) (by decide) hg)
        have n1_:=A0_.mk (blk_grown (g:=gb219) (o:=.cells #[.slice A0_0 l0_0.length c0_0,.slice (some ad231) l0_1.length c0_1,.int .i64 a0_2] 26 (0,0)) (by (with_reducible repeat (first|refine bN_ ?_ _|refine bD_ ?_|refine bA_ ?_ _));exact BK219.out) hg (Kd.S_ne HO_228001.out BK219.out (by decide)))
        have n2_:=A0_.mk (blk_grown (g:=gb220) (o:=.cells #[.slice none 0 0,.slice none 0 0,.int .i64 0] 26 (0,0)) (by (with_reducible repeat (first|refine bN_ ?_ _|refine bD_ ?_|refine bA_ ?_ _));exact BK220.out) hg (Kd.S_ne HO_228001.out BK220.out (by decide)))
        have n3_:=A0_.mk (blk_grown (g:=gb227) (o:=.cells #[.slice Ao12 y224.length co12,u228001,.int .i64 a0_2] 26 (0,0)) (by (with_reducible repeat (first|refine bN_ ?_ _|refine bD_ ?_|refine bA_ ?_ _));exact BK227.out) hg (Kd.S_ne HO_228001.out BK227.out (by decide)))
        have n4_:=A0_.mk (hb)
        have n5_:=A0_.mk (ho)
        clear HO_228000
        clear BK219
        clear BK220
        clear BK227
        clear HB
        clear HO_228001
        clear HO234
        have HO_228000:=n0_
        have BK219:=n1_
        have BK220:=n2_
        have BK227:=n3_
        have HB:=n4_
        have HO237:=n5_
        clear n0_ n1_ n2_ n3_ n4_ n5_
        clear ho hb hg hat
        obtain ⟨Ao29,co29,eo29⟩:=Kd.S_slice HO237.out
        (first|subst eo29|(injection eo29 with f1_ f2_ f3_;have f4_:=f1_.symm;have f5_:=f3_.symm;clear f1_ f2_ f3_;subst f4_;subst f5_))
        refine hK.out _ _ ⟨(bC_ BK227.out 0).trans rfl,(bC_ BK227.out 1).trans rfl,(bC_ BK227.out 2).trans rfl,(bC_ BK219.out 0).trans rfl,(bC_ BK219.out 1).trans rfl,(bC_ BK219.out 2).trans rfl,((HB.out.cell (World.block_lt_of_cell? w _ hw231_0)).trans hw231_0)⟩ (fun hHeld => ?_)
        clear hK K
        refine norm_ (a':=?_) ?_ ?_
        rotate_left
        ·show Act.put _ (some 29) _ = _
         simp only [Act.put,List.setIfInBounds_toArray,List.set_cons_zero,List.set_cons_succ,i64_w,i32_w]
         rfl
        refine pure_ (i:=11) (N:=some 30) (v:=?_) (a':=?_) #[true,true,true,true,true,true,true,true,true,true,true,true,false] rfl rfl (any_of HT_.out (by kernel_rfl)) (fun _ _ _ h => h) (Or.inl ⟨by rfl,?_⟩) ?_ ?_
        rotate_left
        ·intro w'
         go_simp
         with_reducible rfl
        rotate_left
        ·simp only [Act.put,List.setIfInBounds_toArray,List.set_cons_zero,List.set_cons_succ,i64_w,i32_w]
         rfl
        refine last_ (i:=12) (N:=none) #[true,true,true,true,true,true,true,true,true,true,true,true,true] rfl rfl (one_of HT_.out (by kernel_rfl)) (by decide) (fun K hK => ?_)
        have hs30 : w27.cell? ⟨gb227,1,none⟩ = some (u228001):=(bC_ BK227.out 1).trans rfl
        have hfs30:=bF_ BK227.out 1
        have hns30_0:=NB219_227.out
        have hns30_1:=NB220_227.out
        have hms30_0:=NB227_219.out
        have hms30_1:=NB227_220.out
        refine skip_ (w1:=?_) (by rfl) rfl ?_ ?_
        rotate_left
        ·go_simp
         rfl
        refine hK.out _ _ ?_
        clear hK K
        refine done_ (done_of HT_.out (by kernel_rfl)) ?_
        try go_wp2
        go_roundg k1
        case measure => have:=HK1.out;omega
        case rel => exact ⟨(wrap64 (x4_1 + 1)),(y235),(.slice Ao29 y235.length co29),(by first|rfl|(simp;done)|(simp [*];done)),H',⟨by have:=HK1.out;omega⟩,⟨by (with_reducible repeat (first|apply Kd.R_alloc|apply Kd.R_drewN|apply Kd.R_drew));exact Kd.R_mono (Kd.R_far (p:=⟨gb227,1,none⟩) (Kd.R_types HO_228000.out BK227.out (by decide)) (fun _ hk => hk.2) (.slice Ao29 y235.length co29)) (fun _ hk => trivial)⟩,⟨by (with_reducible repeat (first|apply Kd.S_alloc|apply Kd.S_drewN|apply Kd.S_drew));exact Kd.S_mono (Kd.S_far (p:=⟨gb227,1,none⟩) (Kd.S_types HO237.out BK227.out (by decide)) (fun _ hk => hk.2) (.slice Ao29 y235.length co29)) (fun _ hk => hk.1)⟩,⟨by (with_reducible repeat (first|refine bN_ ?_ _|refine bD_ ?_|refine bA_ ?_ _));refine blk_far ?_ NB219_227.out _;(with_reducible repeat (first|refine bN_ ?_ _|refine bD_ ?_|refine bA_ ?_ _));exact BK219.out⟩,⟨by (with_reducible repeat (first|refine bN_ ?_ _|refine bD_ ?_|refine bA_ ?_ _));refine blk_far ?_ NB220_227.out _;(with_reducible repeat (first|refine bN_ ?_ _|refine bD_ ?_|refine bA_ ?_ _));exact BK220.out⟩,⟨by (with_reducible repeat (first|refine bN_ ?_ _|refine bD_ ?_|refine bA_ ?_ _));refine blk_put (cs:=#[.slice Ao12 y224.length co12,u228001,.int .i64 a0_2]) ?_ 1 _ rfl;(with_reducible repeat (first|refine bN_ ?_ _|refine bD_ ?_|refine bA_ ?_ _));exact BK227.out⟩,⟨by repeat (first|(with_reducible first|exact HB.out|apply eA_|apply eN_|apply eD_|refine eS_ ?_ GE219.out|refine eS_ ?_ GE220.out|refine eS_ ?_ GE227.out)|exact HB.out)⟩⟩
       ·rw [if_neg c19] at H
        exact absurd H (by simp)
      ·rw [if_neg c18] at H
       exact absurd H (by simp)
     ·rw [if_neg c17] at H
      exact absurd H (by simp)
    ·rw [if_neg c16] at H
     have c16b0 : decide (x4_1 < (l0_1.length : Int)) = false:=decide_eq_false c16
     clear c16
     simp only [Option.some.injEq,Prod.mk.injEq] at H
     obtain ⟨rfl,rfl,rfl⟩:=H
     have hnb31:=NB219_220.out
     have hnc31:=NB220_219.out
     have hnb32:=NB219_227.out
     have hnc32:=NB227_219.out
     have hcz33_0 : wr.cell? ⟨gb219,0,none⟩ = some (.slice A0_0 l0_0.length c0_0):=(bC_ BK219.out 0).trans rfl
     have hcz33_1 : wr.cell? ⟨gb219,1,none⟩ = some (.slice A0_1 l0_1.length c0_1):=(bC_ BK219.out 1).trans rfl
     have hcz33_2 : wr.cell? ⟨gb219,2,none⟩ = some (.int .i64 a0_2):=(bC_ BK219.out 2).trans rfl
     have hfz33_0:=bF_ BK219.out 0
     have hfz33_1:=bF_ BK219.out 1
     have hfz33_2:=bF_ BK219.out 2
     have hnb34:=NB227_220.out
     have hnc34:=NB220_227.out
     have hcz35_0 : wr.cell? ⟨gb227,0,none⟩ = some (.slice Ao12 y224.length co12):=(bC_ BK227.out 0).trans rfl
     have hcz35_1 : wr.cell? ⟨gb227,1,none⟩ = some (u228001):=(bC_ BK227.out 1).trans rfl
     have hcz35_2 : wr.cell? ⟨gb227,2,none⟩ = some (.int .i64 a0_2):=(bC_ BK227.out 2).trans rfl
     have hfz35_0:=bF_ BK227.out 0
     have hfz35_1:=bF_ BK227.out 1
     have hfz35_2:=bF_ BK227.out 2
     have hcz36_0 : wr.cell? ⟨gb220,0,none⟩ = some (.slice none 0 0):=(bC_ BK220.out 0).trans rfl
     have hcz36_1 : wr.cell? ⟨gb220,1,none⟩ = some (.slice none 0 0):=(bC_ BK220.out 1).trans rfl
     have hcz36_2 : wr.cell? ⟨gb220,2,none⟩ = some (.int .i64 0):=(bC_ BK220.out 2).trans rfl
     have hfz36_0:=bF_ BK220.out 0
     have hfz36_1:=bF_ BK220.out 1
     have hfz36_2:=bF_ BK220.out 2
     obtain ⟨Ao37,co37,eo37⟩:=Kd.S_slice HO_228001.out
     subst eo37
     go_wp2
     refine bodyPost_ret (results_cell_row rfl _ _ gb220 26 #[.slice Ao12 y224.length co12,.slice Ao37 x228001_1.length co37,.int .i64 a0_2] (0,0) _ rfl (by (with_reducible repeat (first|refine bN_ ?_ _|refine bD_ ?_|refine bA_ ?_ _));refine blk_put (cs:=#[.slice Ao12 y224.length co12,.slice Ao37 x228001_1.length co37,.int .i64 0]) ?_ 2 _ rfl;(with_reducible repeat (first|refine bN_ ?_ _|refine bD_ ?_|refine bA_ ?_ _));refine blk_put (cs:=#[.slice Ao12 y224.length co12,.slice none 0 0,.int .i64 0]) ?_ 1 _ rfl;(with_reducible repeat (first|refine bN_ ?_ _|refine bD_ ?_|refine bA_ ?_ _));refine blk_put (cs:=#[.slice none 0 0,.slice none 0 0,.int .i64 0]) ?_ 0 _ rfl;(with_reducible repeat (first|refine bN_ ?_ _|refine bD_ ?_|refine bA_ ?_ _));exact BK220.out) Tryd.underlying26 rfl (by kernel_rfl)) rfl ?_
     exact ⟨_,_,by first|rfl|(simp [errW_none,errW_some] <;> rfl)|(simp [*,errW_none,errW_some] <;> rfl),by (with_reducible repeat (first|apply Kd.R_alloc|apply Kd.R_drewN|apply Kd.R_drew));exact Kd.R_mono (Kd.R_far (p:=⟨gb220,2,none⟩) (Kd.R_far (p:=⟨gb220,1,none⟩) (Kd.R_far (p:=⟨gb220,0,none⟩) (Kd.R_types HO_228000.out BK220.out (by decide)) (fun _ hk => hk.2) (.slice Ao12 y224.length co12)) (fun _ hk => hk.2) (.slice Ao37 x228001_1.length co37)) (fun _ hk => hk.2) (.int .i64 a0_2)) (fun _ hk => trivial),by (with_reducible repeat (first|apply Kd.S_alloc|apply Kd.S_drewN|apply Kd.S_drew));exact Kd.S_mono (Kd.S_far (p:=⟨gb220,2,none⟩) (Kd.S_far (p:=⟨gb220,1,none⟩) (Kd.S_far (p:=⟨gb220,0,none⟩) (Kd.S_types HO_228001.out BK220.out (by decide)) (fun _ hk => hk.2) (.slice Ao12 y224.length co12)) (fun _ hk => hk.2) (.slice Ao37 x228001_1.length co37)) (fun _ hk => hk.2) (.int .i64 a0_2)) (fun _ hk => hk.1),by repeat (first|(with_reducible first|exact HB.out|apply eA_|apply eN_|apply eD_|refine eS_ ?_ GE219.out|refine eS_ ?_ GE220.out|refine eS_ ?_ GE227.out)|exact HB.out)⟩
 ·rw [if_neg c2] at H
  exact absurd H (by simp)
def stim_sized.f (a0 : Int) (a1 : Int) : Option (Bool):=if a0 ≥ 0 then (if a0 ≤ 16384 then (if a1 ≥ 0 then (some (decide (a1 ≤ 16384))) else (some false)) else (some false)) else (some false)
set_option maxHeartbeats 8000000 in
set_option maxRecDepth 100000 in
theorem stim_sized.calls (a0 : Int) (a1 : Int) (r : Bool) (w : World) (h : stim_sized.f a0 a1 = some r) :
  Calls Tryd.prog 40 #[.int .i64 a0,.int .i64 a1] w fun e w' => e = .returned (.bool r) ∧ Drawn0 w w':=by
 have H : (if a0 ≥ 0 then (if a0 ≤ 16384 then (if a1 ≥ 0 then (some (decide (a1 ≤ 16384))) else (some false)) else (some false)) else (some false)) = some r:=h
 clear h
 by_cases c3 : a0 ≥ 0
 ·rw [if_pos c3] at H
  have c3b0 : decide (0 ≤ a0) = true:=decide_eq_true c3
  clear c3
  by_cases c4 : a0 ≤ 16384
  ·rw [if_pos c4] at H
   have c4b0 : decide (a0 ≤ 16384) = true:=decide_eq_true c4
   clear c4
   by_cases c5 : a1 ≥ 0
   ·rw [if_pos c5] at H
    have c5b0 : decide (0 ≤ a1) = true:=decide_eq_true c5
    clear c5
    obtain rfl:=Option.some.inj H
    go_enter Tryd.func40,Tryd.ntmps40
    go_wp2
    go_ret
    exact ⟨by first|rfl|(simp;done)|(simp [*];done),by repeat (first|exact Drawn0.refl _|apply Drawn0.step)⟩
   ·rw [if_neg c5] at H
    have c5b0 : decide (0 ≤ a1) = false:=decide_eq_false c5
    clear c5
    obtain rfl:=Option.some.inj H
    go_enter Tryd.func40,Tryd.ntmps40
    go_wp2
    go_ret
    exact ⟨by first|rfl|(simp;done)|(simp [*];done),by repeat (first|exact Drawn0.refl _|apply Drawn0.step)⟩
  ·rw [if_neg c4] at H
   have c4b0 : decide (a0 ≤ 16384) = false:=decide_eq_false c4
   clear c4
   obtain rfl:=Option.some.inj H
   go_enter Tryd.func40,Tryd.ntmps40
   go_wp2
   go_ret
   exact ⟨by first|rfl|(simp;done)|(simp [*];done),by repeat (first|exact Drawn0.refl _|apply Drawn0.step)⟩
 ·rw [if_neg c3] at H
  have c3b0 : decide (0 ≤ a0) = false:=decide_eq_false c3
  clear c3
  obtain rfl:=Option.some.inj H
  go_enter Tryd.func40,Tryd.ntmps40
  go_wp2
  go_ret
  exact ⟨by first|rfl|(simp;done)|(simp [*];done),by repeat (first|exact Drawn0.refl _|apply Drawn0.step)⟩
end Go.Proofs.YtojepjkpnponoaaDoor.Stim

