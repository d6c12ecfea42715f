import Derived.Test.YtojepjkpnponoaaDoorFStim0
import Derived.Test.YtojepjkpnponoaaDoorFStim2
import Derived.Test.YtojepjkpnponoaaDoorFStim8
import Derived.Test.YtojepjkpnponoaaDoorFGV
namespace Go.Proofs.YtojepjkpnponoaaDoor.Stim
open Go.RowKit Go.Proofs.YtojepjkpnponoaaDoorW.PrintWords Go.Proofs.YtojepjkpnponoaaDoorW.PrintLast Go.Proofs.YtojepjkpnponoaaDoorW.PrintMore
attribute [local go_sem] max2_int min2_int max_two min_two max_three min_three max_four min_four
set_option linter.unusedVariables false
set_option linter.unusedSimpArgs false
attribute [local go_sem high] eqA83
mutual
def book_ST.j0 : Nat → Bool → List Bool → List (List Bool) → Int → List Bool → List (List Bool) → Int → Option (Bool)
 |0,_,_,_,_,_,_,_ => none
 |k + 1,x27,x257000,x257001,x257002,x258000,x258001,x258002 => if x27 = true then (none) else (book_ST.l0 k 0 x257000 x257001 x257002 x258000 x258001 x258002)
def book_ST.l0 : Nat → Int → List Bool → List (List Bool) → Int → List Bool → List (List Bool) → Int → Option (Bool)
 |0,_,_,_,_,_,_,_ => none
 |k + 1,x5,x257000,x257001,x257002,x258000,x258001,x258002 => if x5 < (x257001.length : Int) then (if 0 ≤ x5 then (if x5 < (x258001.length : Int) then ((trestlebook_SameBools.f k (rd_L6 x257001 x5) (rd_L6 x258001 x5)).bind fun t261 => (if t261 = true then (book_ST.l0 k (wrap64 (x5 + 1)) x257000 x257001 x257002 x258000 x258001 x258002) else (none))) else (none)) else (none)) else (some true)
end
def book_ST.f (k : Nat) (l0_0 : List Bool) (l0_1 : List (List Bool)) (a0_2 : Int) (l1_0 : List Bool) (l1_1 : List (List Bool)) (a1_2 : Int) : Option (Bool):=if a0_2 = a1_2 then ((trestlebook_SameBools.f k l0_0 l1_0).bind fun t258 => (if t258 = true then (book_ST.j0 k ((l0_1.length : Int) != (l1_1.length : Int)) l0_0 l0_1 a0_2 l1_0 l1_1 a1_2) else (book_ST.j0 k true l0_0 l0_1 a0_2 l1_0 l1_1 a1_2))) else (book_ST.j0 k true l0_0 l0_1 a0_2 l1_0 l1_1 a1_2)
theorem book_ST.mono_l : ∀ k,(∀ y0 y1 y2 y3 y4 y5 y6,LeO (book_ST.j0 k y0 y1 y2 y3 y4 y5 y6) (book_ST.j0 (k + 1) y0 y1 y2 y3 y4 y5 y6)) ∧ (∀ y0 y1 y2 y3 y4 y5 y6,LeO (book_ST.l0 k y0 y1 y2 y3 y4 y5 y6) (book_ST.l0 (k + 1) y0 y1 y2 y3 y4 y5 y6))
 |0 => ⟨fun _ _ _ _ _ _ _ r h => by simp [book_ST.j0] at h,fun _ _ _ _ _ _ _ r h => by simp [book_ST.l0] at h⟩
 |k + 1 => by
  obtain ⟨ih0,ih1⟩:=book_ST.mono_l k
  refine ⟨?_,?_⟩
  ·intro y0 y1 y2 y3 y4 y5 y6
   unfold book_ST.j0
   repeat' first
   |(with_reducible exact ih0 _ _ _ _ _ _ _)
   |(with_reducible exact ih1 _ _ _ _ _ _ _)
   |(with_reducible exact trestlebook_SameBools.mono _ _ _)
   |(with_reducible exact LeO.refl _)
   |(with_reducible exact LeO.none _)
   |(with_reducible refine LeO.ite ?_ ?_)
   |(with_reducible refine LeO.bind ?_ (fun _ => ?_))
   |exact ih0 _ _ _ _ _ _ _
   |exact ih1 _ _ _ _ _ _ _
   |exact trestlebook_SameBools.mono _ _ _
   |exact LeO.none _
   |refine LeO.ite ?_ ?_
   |refine LeO.bind ?_ (fun _ => ?_)
  ·intro y0 y1 y2 y3 y4 y5 y6
   unfold book_ST.l0
   repeat' first
   |(with_reducible exact ih0 _ _ _ _ _ _ _)
   |(with_reducible exact ih1 _ _ _ _ _ _ _)
   |(with_reducible exact trestlebook_SameBools.mono _ _ _)
   |(with_reducible exact LeO.refl _)
   |(with_reducible exact LeO.none _)
   |(with_reducible refine LeO.ite ?_ ?_)
   |(with_reducible refine LeO.bind ?_ (fun _ => ?_))
   |exact ih0 _ _ _ _ _ _ _
   |exact ih1 _ _ _ _ _ _ _
   |exact trestlebook_SameBools.mono _ _ _
   |exact LeO.none _
   |refine LeO.ite ?_ ?_
   |refine LeO.bind ?_ (fun _ => ?_)
theorem book_ST.mono : ∀ a0 a1 a2 a3 a4 a5 k,LeO (book_ST.f k a0 a1 a2 a3 a4 a5) (book_ST.f (k + 1) a0 a1 a2 a3 a4 a5):=by
 intro a0 a1 a2 a3 a4 a5 k
 obtain ⟨ih0,ih1⟩:=book_ST.mono_l k
 unfold book_ST.f
 repeat' first
   |(with_reducible exact ih0 _ _ _ _ _ _ _)
   |(with_reducible exact ih1 _ _ _ _ _ _ _)
   |(with_reducible exact trestlebook_SameBools.mono _ _ _)
   |(with_reducible exact LeO.refl _)
   |(with_reducible exact LeO.none _)
   |(with_reducible refine LeO.ite ?_ ?_)
   |(with_reducible refine LeO.bind ?_ (fun _ => ?_))
   |exact ih0 _ _ _ _ _ _ _
   |exact ih1 _ _ _ _ _ _ _
   |exact trestlebook_SameBools.mono _ _ _
   |exact LeO.none _
   |refine LeO.ite ?_ ?_
   |refine LeO.bind ?_ (fun _ => ?_)
set_option maxHeartbeats 8000000 in
set_option maxRecDepth 100000 in
theorem book_ST.calls (k : Nat) (A0_0 : Option Addr) (c0_0 : Nat) (l0_0 : List Bool) (A0_1 : Option Addr) (c0_1 : Nat) (l0_1 : List (List Bool)) (a0_2 : Int) (A1_0 : Option Addr) (c1_0 : Nat) (l1_0 : List Bool) (A1_1 : Option Addr) (c1_1 : Nat) (l1_1 : List (List Bool)) (a1_2 : Int) (r : Bool) (w : World) (hr0_0 : Kd.C Kd.bool w A0_0 l0_0.length l0_0) (hc0_0 : l0_0.length ≤ c0_0) (hr0_1 : Kd.C (Kd.slice 4 Kd.bool) w A0_1 l0_1.length l0_1) (hc0_1 : l0_1.length ≤ c0_1) (hr1_0 : Kd.C Kd.bool w A1_0 l1_0.length l1_0) (hc1_0 : l1_0.length ≤ c1_0) (hr1_1 : Kd.C (Kd.slice 4 Kd.bool) w A1_1 l1_1.length l1_1) (hc1_1 : l1_1.length ≤ c1_1) (h : book_ST.f k l0_0 l0_1 a0_2 l1_0 l1_1 a1_2 = some r) :
  Calls Tryd.prog 45 #[.agg #[.slice A0_0 l0_0.length c0_0,.slice A0_1 l0_1.length c0_1,.int .i64 a0_2],.agg #[.slice A1_0 l1_0.length c1_0,.slice A1_1 l1_1.length c1_1,.int .i64 a1_2]] w fun e w' => e = .returned (.bool r) ∧ Below w.heap.size w w':=by
 have hu26:=Tryd.underlying26
 have HR0_0:=A0_.mk hr0_0
 have HC0_0:=A0_.mk hc0_0
 clear hr0_0 hc0_0
 have HR0_1:=A0_.mk hr0_1
 have HC0_1:=A0_.mk hc0_1
 clear hr0_1 hc0_1
 have HR1_0:=A0_.mk hr1_0
 have HC1_0:=A0_.mk hc1_0
 clear hr1_0 hc1_0
 have HR1_1:=A0_.mk hr1_1
 have HC1_1:=A0_.mk hc1_1
 clear hr1_1 hc1_1
 have HB:=A0_.mk (Below.refl w.heap.size w)
 have H : (if a0_2 = a1_2 then ((trestlebook_SameBools.f k l0_0 l1_0).bind fun t258 => (if t258 = true then (book_ST.j0 k ((l0_1.length : Int) != (l1_1.length : Int)) l0_0 l0_1 a0_2 l1_0 l1_1 a1_2) else (book_ST.j0 k true l0_0 l0_1 a0_2 l1_0 l1_1 a1_2))) else (book_ST.j0 k true l0_0 l0_1 a0_2 l1_0 l1_1 a1_2)) = some r:=h
 clear h
 have HC3:=A0_.mk H
 clear H
 go_enter Tryd.func45,Tryd.ntmps45
 go_upto_region 1 with (first|((with_reducible refine gate_dst (N:=2) rfl ?_);(try (refine gate_guard (by rfl) ?_;dsimp only));refine box_event ?hg (N:=2) ?hd (cs:=#[.slice A0_0 l0_0.length c0_0,.slice A0_1 l0_1.length c0_1,.int .i64 a0_2]) (t:=26) ?hr ?_;(case hd => rfl);(case hg => rfl);(case hr => first|(go_simp;done)|(go_simp;rfl));intro gb256 hg w4 hbox hb;have n0_:=A0_.mk (below_step (by repeat (first|(with_reducible first|exact HB.out|apply eA_|apply eN_|apply eD_)|exact HB.out)) hb);have n1_:=A0_.mk (hbox);have n2_:=A0_.mk ((by rw [hg];exact (below_size (by repeat (first|(with_reducible first|exact HB.out|apply eA_|apply eN_|apply eD_)|exact HB.out))) : w.heap.size ≤ gb256));have n3_:=A0_.mk ((by rw [hg];exact (below_size (by repeat (first|(with_reducible first|exact HB.out|apply eA_|apply eN_|apply eD_)|exact HB.out))) : w.heap.size ≤ gb256));clear HB;have HB:=n0_;have BK256:=n1_;have GW256:=n2_;have GE256:=n3_;clear n0_ n1_ n2_ n3_;clear hb hbox hg)|((with_reducible refine gate_dst (N:=3) rfl ?_);(try (refine gate_guard (by rfl) ?_;dsimp only));refine box_event ?hg (N:=3) ?hd (cs:=#[.slice A1_0 l1_0.length c1_0,.slice A1_1 l1_1.length c1_1,.int .i64 a1_2]) (t:=26) ?hr ?_;(case hd => rfl);(case hg => rfl);(case hr => first|(go_simp;done)|(go_simp;rfl));intro gb257 hg w5 hbox hb;have n0_:=A0_.mk (blk_below (g:=gb256) (o:=.cells #[.slice A0_0 l0_0.length c0_0,.slice A0_1 l0_1.length c0_1,.int .i64 a0_2] 26 (0,0)) (by (with_reducible repeat (first|refine bN_ ?_ _|refine bD_ ?_|refine bA_ ?_ _));exact BK256.out) hb);have n1_:=A0_.mk (below_step (by repeat (first|(with_reducible first|exact HB.out|apply eA_|apply eN_|apply eD_|refine eS_ ?_ GE256.out)|exact HB.out)) hb);have n2_:=A0_.mk (hbox);have n3_:=A0_.mk ((by rw [hg];exact (below_size (by repeat (first|(with_reducible first|exact HB.out|apply eA_|apply eN_|apply eD_|refine eS_ ?_ GE256.out)|exact HB.out))) : w.heap.size ≤ gb257));have n4_:=A0_.mk ((by rw [hg];exact (below_size (by repeat (first|(with_reducible first|exact HB.out|apply eA_|apply eN_|apply eD_|refine eS_ ?_ GE256.out)|exact HB.out))) : w.heap.size ≤ gb257));have n5_:=A0_.mk ((by rw [hg];exact Nat.ne_of_lt (blk_lt (g:=gb256) (o:=.cells #[.slice A0_0 l0_0.length c0_0,.slice A0_1 l0_1.length c0_1,.int .i64 a0_2] 26 (0,0)) (by (with_reducible repeat (first|refine bN_ ?_ _|refine bD_ ?_|refine bA_ ?_ _));exact BK256.out)) : gb256 ≠ gb257));have n6_:=A0_.mk ((by rw [hg];exact Nat.ne_of_gt (blk_lt (g:=gb256) (o:=.cells #[.slice A0_0 l0_0.length c0_0,.slice A0_1 l0_1.length c0_1,.int .i64 a0_2] 26 (0,0)) (by (with_reducible repeat (first|refine bN_ ?_ _|refine bD_ ?_|refine bA_ ?_ _));exact BK256.out)) : gb257 ≠ gb256));clear BK256;clear HB;have BK256:=n0_;have HB:=n1_;have BK257:=n2_;have GW257:=n3_;have GE257:=n4_;have NB256_257:=n5_;have NB257_256:=n6_;clear n0_ n1_ n2_ n3_ n4_ n5_ n6_;clear hb hbox hg))
 repeat (go_quiet (first|((with_reducible refine gate_dst (N:=2) rfl ?_);(try (refine gate_guard (by rfl) ?_;dsimp only));refine box_event ?hg (N:=2) ?hd (cs:=#[.slice A0_0 l0_0.length c0_0,.slice A0_1 l0_1.length c0_1,.int .i64 a0_2]) (t:=26) ?hr ?_;(case hd => rfl);(case hg => rfl);(case hr => first|(go_simp;done)|(go_simp;rfl));intro gb256 hg w4 hbox hb;have n0_:=A0_.mk (below_step (by repeat (first|(with_reducible first|exact HB.out|apply eA_|apply eN_|apply eD_)|exact HB.out)) hb);have n1_:=A0_.mk (hbox);have n2_:=A0_.mk ((by rw [hg];exact (below_size (by repeat (first|(with_reducible first|exact HB.out|apply eA_|apply eN_|apply eD_)|exact HB.out))) : w.heap.size ≤ gb256));have n3_:=A0_.mk ((by rw [hg];exact (below_size (by repeat (first|(with_reducible first|exact HB.out|apply eA_|apply eN_|apply eD_)|exact HB.out))) : w.heap.size ≤ gb256));clear HB;have HB:=n0_;have BK256:=n1_;have GW256:=n2_;have GE256:=n3_;clear n0_ n1_ n2_ n3_;clear hb hbox hg)|((with_reducible refine gate_dst (N:=3) rfl ?_);(try (refine gate_guard (by rfl) ?_;dsimp only));refine box_event ?hg (N:=3) ?hd (cs:=#[.slice A1_0 l1_0.length c1_0,.slice A1_1 l1_1.length c1_1,.int .i64 a1_2]) (t:=26) ?hr ?_;(case hd => rfl);(case hg => rfl);(case hr => first|(go_simp;done)|(go_simp;rfl));intro gb257 hg w5 hbox hb;have n0_:=A0_.mk (blk_below (g:=gb256) (o:=.cells #[.slice A0_0 l0_0.length c0_0,.slice A0_1 l0_1.length c0_1,.int .i64 a0_2] 26 (0,0)) (by (with_reducible repeat (first|refine bN_ ?_ _|refine bD_ ?_|refine bA_ ?_ _));exact BK256.out) hb);have n1_:=A0_.mk (below_step (by repeat (first|(with_reducible first|exact HB.out|apply eA_|apply eN_|apply eD_|refine eS_ ?_ GE256.out)|exact HB.out)) hb);have n2_:=A0_.mk (hbox);have n3_:=A0_.mk ((by rw [hg];exact (below_size (by repeat (first|(with_reducible first|exact HB.out|apply eA_|apply eN_|apply eD_|refine eS_ ?_ GE256.out)|exact HB.out))) : w.heap.size ≤ gb257));have n4_:=A0_.mk ((by rw [hg];exact (below_size (by repeat (first|(with_reducible first|exact HB.out|apply eA_|apply eN_|apply eD_|refine eS_ ?_ GE256.out)|exact HB.out))) : w.heap.size ≤ gb257));have n5_:=A0_.mk ((by rw [hg];exact Nat.ne_of_lt (blk_lt (g:=gb256) (o:=.cells #[.slice A0_0 l0_0.length c0_0,.slice A0_1 l0_1.length c0_1,.int .i64 a0_2] 26 (0,0)) (by (with_reducible repeat (first|refine bN_ ?_ _|refine bD_ ?_|refine bA_ ?_ _));exact BK256.out)) : gb256 ≠ gb257));have n6_:=A0_.mk ((by rw [hg];exact Nat.ne_of_gt (blk_lt (g:=gb256) (o:=.cells #[.slice A0_0 l0_0.length c0_0,.slice A0_1 l0_1.length c0_1,.int .i64 a0_2] 26 (0,0)) (by (with_reducible repeat (first|refine bN_ ?_ _|refine bD_ ?_|refine bA_ ?_ _));exact BK256.out)) : gb257 ≠ gb256));clear BK256;clear HB;have BK256:=n0_;have HB:=n1_;have BK257:=n2_;have GW257:=n3_;have GE257:=n4_;have NB256_257:=n5_;have NB257_256:=n6_;clear n0_ n1_ n2_ n3_ n4_ n5_ n6_;clear hb hbox hg));go_upto_region 1 with (first|((with_reducible refine gate_dst (N:=2) rfl ?_);(try (refine gate_guard (by rfl) ?_;dsimp only));refine box_event ?hg (N:=2) ?hd (cs:=#[.slice A0_0 l0_0.length c0_0,.slice A0_1 l0_1.length c0_1,.int .i64 a0_2]) (t:=26) ?hr ?_;(case hd => rfl);(case hg => rfl);(case hr => first|(go_simp;done)|(go_simp;rfl));intro gb256 hg w4 hbox hb;have n0_:=A0_.mk (below_step (by repeat (first|(with_reducible first|exact HB.out|apply eA_|apply eN_|apply eD_)|exact HB.out)) hb);have n1_:=A0_.mk (hbox);have n2_:=A0_.mk ((by rw [hg];exact (below_size (by repeat (first|(with_reducible first|exact HB.out|apply eA_|apply eN_|apply eD_)|exact HB.out))) : w.heap.size ≤ gb256));have n3_:=A0_.mk ((by rw [hg];exact (below_size (by repeat (first|(with_reducible first|exact HB.out|apply eA_|apply eN_|apply eD_)|exact HB.out))) : w.heap.size ≤ gb256));clear HB;have HB:=n0_;have BK256:=n1_;have GW256:=n2_;have GE256:=n3_;clear n0_ n1_ n2_ n3_;clear hb hbox hg)|((with_reducible refine gate_dst (N:=3) rfl ?_);(try (refine gate_guard (by rfl) ?_;dsimp only));refine box_event ?hg (N:=3) ?hd (cs:=#[.slice A1_0 l1_0.length c1_0,.slice A1_1 l1_1.length c1_1,.int .i64 a1_2]) (t:=26) ?hr ?_;(case hd => rfl);(case hg => rfl);(case hr => first|(go_simp;done)|(go_simp;rfl));intro gb257 hg w5 hbox hb;have n0_:=A0_.mk (blk_below (g:=gb256) (o:=.cells #[.slice A0_0 l0_0.length c0_0,.slice A0_1 l0_1.length c0_1,.int .i64 a0_2] 26 (0,0)) (by (with_reducible repeat (first|refine bN_ ?_ _|refine bD_ ?_|refine bA_ ?_ _));exact BK256.out) hb);have n1_:=A0_.mk (below_step (by repeat (first|(with_reducible first|exact HB.out|apply eA_|apply eN_|apply eD_|refine eS_ ?_ GE256.out)|exact HB.out)) hb);have n2_:=A0_.mk (hbox);have n3_:=A0_.mk ((by rw [hg];exact (below_size (by repeat (first|(with_reducible first|exact HB.out|apply eA_|apply eN_|apply eD_|refine eS_ ?_ GE256.out)|exact HB.out))) : w.heap.size ≤ gb257));have n4_:=A0_.mk ((by rw [hg];exact (below_size (by repeat (first|(with_reducible first|exact HB.out|apply eA_|apply eN_|apply eD_|refine eS_ ?_ GE256.out)|exact HB.out))) : w.heap.size ≤ gb257));have n5_:=A0_.mk ((by rw [hg];exact Nat.ne_of_lt (blk_lt (g:=gb256) (o:=.cells #[.slice A0_0 l0_0.length c0_0,.slice A0_1 l0_1.length c0_1,.int .i64 a0_2] 26 (0,0)) (by (with_reducible repeat (first|refine bN_ ?_ _|refine bD_ ?_|refine bA_ ?_ _));exact BK256.out)) : gb256 ≠ gb257));have n6_:=A0_.mk ((by rw [hg];exact Nat.ne_of_gt (blk_lt (g:=gb256) (o:=.cells #[.slice A0_0 l0_0.length c0_0,.slice A0_1 l0_1.length c0_1,.int .i64 a0_2] 26 (0,0)) (by (with_reducible repeat (first|refine bN_ ?_ _|refine bD_ ?_|refine bA_ ?_ _));exact BK256.out)) : gb257 ≠ gb256));clear BK256;clear HB;have BK256:=n0_;have HB:=n1_;have BK257:=n2_;have GW257:=n3_;have GE257:=n4_;have NB256_257:=n5_;have NB257_256:=n6_;clear n0_ n1_ n2_ n3_ n4_ n5_ n6_;clear hb hbox hg)))
 (try simp only [Act.put,List.setIfInBounds_toArray,List.set_cons_zero,List.set_cons_succ])
 go_cut [27] (fun v27 wc => ∃ (kq : Nat) (x27_2 : Bool),v27 = .bool x27_2 ∧ A0_ (book_ST.j0 kq x27_2 l0_0 l0_1 a0_2 l1_0 l1_1 a1_2 = some r) ∧ A0_ (kq ≤ k) ∧ A0_ (wc.heap[gb256]? = some (.cells #[(.slice A0_0 l0_0.length c0_0),(.slice A0_1 l0_1.length c0_1),.int .i64 a0_2] 26 (0,0))) ∧ A0_ (wc.heap[gb257]? = some (.cells #[(.slice A1_0 l1_0.length c1_0),(.slice A1_1 l1_1.length c1_1),.int .i64 a1_2] 26 (0,0))) ∧ A0_ (Below w.heap.size w wc))
 case first =>
  have H:=HC3.out
  clear HC3
  by_cases c6 : a0_2 = a1_2
  ·rw [if_pos c6] at H
   have c6b0 : (a0_2 == a1_2) = true:=beq_iff_eq.mpr c6
   have c6b1 : (a0_2 != a1_2) = false:=bne_eq_false_iff_eq.mpr c6
   clear c6
   (first|rw [c6b0]|(simp only [i64_w,i32_w];rw [c6b0])|skip)
   replace H:=Option.bind_eq_some_iff.mp H
   obtain ⟨t258,A70,H⟩:=H
   replace H : (if t258 = true then (book_ST.j0 k ((l0_1.length : Int) != (l1_1.length : Int)) l0_0 l0_1 a0_2 l1_0 l1_1 a1_2) else (book_ST.j0 k true l0_0 l0_1 a0_2 l1_0 l1_1 a1_2)) = some r:=H
   have A7:=A0_.mk A70
   clear A70
   by_cases c8 : t258 = true
   ·subst c8
    have H1 : (book_ST.j0 k ((l0_1.length : Int) != (l1_1.length : Int)) l0_0 l0_1 a0_2 l1_0 l1_1 a1_2) = some r:=by rw [if_pos rfl] at H;exact H
    clear H
    have H:=H1
    clear H1
    have H':=A0_.mk H
    clear H
    have hnb9:=NB256_257.out
    have hnc9:=NB257_256.out
    have hcz10_0 : w5.cell? ⟨gb256,0,none⟩ = some (.slice A0_0 l0_0.length c0_0):=(bC_ BK256.out 0).trans rfl
    have hcz10_1 : w5.cell? ⟨gb256,1,none⟩ = some (.slice A0_1 l0_1.length c0_1):=(bC_ BK256.out 1).trans rfl
    have hcz10_2 : w5.cell? ⟨gb256,2,none⟩ = some (.int .i64 a0_2):=(bC_ BK256.out 2).trans rfl
    have hfz10_0:=bF_ BK256.out 0
    have hfz10_1:=bF_ BK256.out 1
    have hfz10_2:=bF_ BK256.out 2
    have hcz11_0 : w5.cell? ⟨gb257,0,none⟩ = some (.slice A1_0 l1_0.length c1_0):=(bC_ BK257.out 0).trans rfl
    have hcz11_1 : w5.cell? ⟨gb257,1,none⟩ = some (.slice A1_1 l1_1.length c1_1):=(bC_ BK257.out 1).trans rfl
    have hcz11_2 : w5.cell? ⟨gb257,2,none⟩ = some (.int .i64 a1_2):=(bC_ BK257.out 2).trans rfl
    have hfz11_0:=bF_ BK257.out 0
    have hfz11_1:=bF_ BK257.out 1
    have hfz11_2:=bF_ BK257.out 2
    go_wp2_with (first|(go_at_call 72;(with_reducible refine (trestlebook_SameBools.calls k _ _ l0_0 _ _ l1_0 true _ ?side1 ?side2 ?side3 ?side4 A7.out).mono ?_);(case side1 => repeat (first|exact (Kd.C_below HR0_0.out HB.out)|(with_reducible refine Kd.C_alloc ?_ _)|(with_reducible refine Kd.C_drewN ?_ _)|(with_reducible refine Kd.C_drew ?_)));(case side2 => exact HC0_0.out);(case side3 => repeat (first|exact (Kd.C_below HR1_0.out HB.out)|(with_reducible refine Kd.C_alloc ?_ _)|(with_reducible refine Kd.C_drewN ?_ _)|(with_reducible refine Kd.C_drew ?_)));(case side4 => exact HC1_0.out);rintro e w' ⟨rfl,⟨nd,rfl⟩⟩;(try first|exact ⟨rfl,_,World.drewN_drewN _ _ _⟩|exact ⟨rfl,_,Eq.trans (World.drewN_drewN _ _ _) (congrArg (World.drewN _) (Nat.add_assoc _ _ _))⟩)))
    repeat (go_quiet (first|(go_at_call 72;(with_reducible refine (trestlebook_SameBools.calls k _ _ l0_0 _ _ l1_0 true _ ?side1 ?side2 ?side3 ?side4 A7.out).mono ?_);(case side1 => repeat (first|exact (Kd.C_below HR0_0.out HB.out)|(with_reducible refine Kd.C_alloc ?_ _)|(with_reducible refine Kd.C_drewN ?_ _)|(with_reducible refine Kd.C_drew ?_)));(case side2 => exact HC0_0.out);(case side3 => repeat (first|exact (Kd.C_below HR1_0.out HB.out)|(with_reducible refine Kd.C_alloc ?_ _)|(with_reducible refine Kd.C_drewN ?_ _)|(with_reducible refine Kd.C_drew ?_)));(case side4 => exact HC1_0.out);rintro e w' ⟨rfl,⟨nd,rfl⟩⟩;(try first|exact ⟨rfl,_,World.drewN_drewN _ _ _⟩|exact ⟨rfl,_,Eq.trans (World.drewN_drewN _ _ _) (congrArg (World.drewN _) (Nat.add_assoc _ _ _))⟩)));try go_wp2_with (first|(go_at_call 72;(with_reducible refine (trestlebook_SameBools.calls k _ _ l0_0 _ _ l1_0 true _ ?side1 ?side2 ?side3 ?side4 A7.out).mono ?_);(case side1 => repeat (first|exact (Kd.C_below HR0_0.out HB.out)|(with_reducible refine Kd.C_alloc ?_ _)|(with_reducible refine Kd.C_drewN ?_ _)|(with_reducible refine Kd.C_drew ?_)));(case side2 => exact HC0_0.out);(case side3 => repeat (first|exact (Kd.C_below HR1_0.out HB.out)|(with_reducible refine Kd.C_alloc ?_ _)|(with_reducible refine Kd.C_drewN ?_ _)|(with_reducible refine Kd.C_drew ?_)));(case side4 => exact HC1_0.out);rintro e w' ⟨rfl,⟨nd,rfl⟩⟩;(try first|exact ⟨rfl,_,World.drewN_drewN _ _ _⟩|exact ⟨rfl,_,Eq.trans (World.drewN_drewN _ _ _) (congrArg (World.drewN _) (Nat.add_assoc _ _ _))⟩))))
    go_meet
    case rel => exact ⟨_,(((l0_1.length : Int) != (l1_1.length : Int))),(by first|rfl|(simp;done)|(simp [*];done)),H',⟨by first|omega|exact Nat.le_refl _⟩,⟨by (with_reducible repeat (first|refine bN_ ?_ _|refine bD_ ?_|refine bA_ ?_ _));exact BK256.out⟩,⟨by (with_reducible repeat (first|refine bN_ ?_ _|refine bD_ ?_|refine bA_ ?_ _));exact BK257.out⟩,⟨by repeat (first|(with_reducible first|exact HB.out|apply eA_|apply eN_|apply eD_|refine eS_ ?_ GE256.out|refine eS_ ?_ GE257.out)|exact HB.out)⟩⟩
   ·replace c8:=Bool.eq_false_iff.mpr c8
    subst c8
    have H1 : (book_ST.j0 k true l0_0 l0_1 a0_2 l1_0 l1_1 a1_2) = some r:=by rw [if_neg (show ¬ (false = true) by decide)] at H;exact H
    clear H
    have H:=H1
    clear H1
    have H':=A0_.mk H
    clear H
    have hnb12:=NB256_257.out
    have hnc12:=NB257_256.out
    have hcz13_0 : w5.cell? ⟨gb256,0,none⟩ = some (.slice A0_0 l0_0.length c0_0):=(bC_ BK256.out 0).trans rfl
    have hcz13_1 : w5.cell? ⟨gb256,1,none⟩ = some (.slice A0_1 l0_1.length c0_1):=(bC_ BK256.out 1).trans rfl
    have hcz13_2 : w5.cell? ⟨gb256,2,none⟩ = some (.int .i64 a0_2):=(bC_ BK256.out 2).trans rfl
    have hfz13_0:=bF_ BK256.out 0
    have hfz13_1:=bF_ BK256.out 1
    have hfz13_2:=bF_ BK256.out 2
    have hcz14_0 : w5.cell? ⟨gb257,0,none⟩ = some (.slice A1_0 l1_0.length c1_0):=(bC_ BK257.out 0).trans rfl
    have hcz14_1 : w5.cell? ⟨gb257,1,none⟩ = some (.slice A1_1 l1_1.length c1_1):=(bC_ BK257.out 1).trans rfl
    have hcz14_2 : w5.cell? ⟨gb257,2,none⟩ = some (.int .i64 a1_2):=(bC_ BK257.out 2).trans rfl
    have hfz14_0:=bF_ BK257.out 0
    have hfz14_1:=bF_ BK257.out 1
    have hfz14_2:=bF_ BK257.out 2
    go_wp2_with (first|(go_at_call 72;(with_reducible refine (trestlebook_SameBools.calls k _ _ l0_0 _ _ l1_0 false _ ?side1 ?side2 ?side3 ?side4 A7.out).mono ?_);(case side1 => repeat (first|exact (Kd.C_below HR0_0.out HB.out)|(with_reducible refine Kd.C_alloc ?_ _)|(with_reducible refine Kd.C_drewN ?_ _)|(with_reducible refine Kd.C_drew ?_)));(case side2 => exact HC0_0.out);(case side3 => repeat (first|exact (Kd.C_below HR1_0.out HB.out)|(with_reducible refine Kd.C_alloc ?_ _)|(with_reducible refine Kd.C_drewN ?_ _)|(with_reducible refine Kd.C_drew ?_)));(case side4 => exact HC1_0.out);rintro e w' ⟨rfl,⟨nd,rfl⟩⟩;(try first|exact ⟨rfl,_,World.drewN_drewN _ _ _⟩|exact ⟨rfl,_,Eq.trans (World.drewN_drewN _ _ _) (congrArg (World.drewN _) (Nat.add_assoc _ _ _))⟩)))
    repeat (go_quiet (first|(go_at_call 72;(with_reducible refine (trestlebook_SameBools.calls k _ _ l0_0 _ _ l1_0 false _ ?side1 ?side2 ?side3 ?side4 A7.out).mono ?_);(case side1 => repeat (first|exact (Kd.C_below HR0_0.out HB.out)|(with_reducible refine Kd.C_alloc ?_ _)|(with_reducible refine Kd.C_drewN ?_ _)|(with_reducible refine Kd.C_drew ?_)));(case side2 => exact HC0_0.out);(case side3 => repeat (first|exact (Kd.C_below HR1_0.out HB.out)|(with_reducible refine Kd.C_alloc ?_ _)|(with_reducible refine Kd.C_drewN ?_ _)|(with_reducible refine Kd.C_drew ?_)));(case side4 => exact HC1_0.out);rintro e w' ⟨rfl,⟨nd,rfl⟩⟩;(try first|exact ⟨rfl,_,World.drewN_drewN _ _ _⟩|exact ⟨rfl,_,Eq.trans (World.drewN_drewN _ _ _) (congrArg (World.drewN _) (Nat.add_assoc _ _ _))⟩)));try go_wp2_with (first|(go_at_call 72;(with_reducible refine (trestlebook_SameBools.calls k _ _ l0_0 _ _ l1_0 false _ ?side1 ?side2 ?side3 ?side4 A7.out).mono ?_);(case side1 => repeat (first|exact (Kd.C_below HR0_0.out HB.out)|(with_reducible refine Kd.C_alloc ?_ _)|(with_reducible refine Kd.C_drewN ?_ _)|(with_reducible refine Kd.C_drew ?_)));(case side2 => exact HC0_0.out);(case side3 => repeat (first|exact (Kd.C_below HR1_0.out HB.out)|(with_reducible refine Kd.C_alloc ?_ _)|(with_reducible refine Kd.C_drewN ?_ _)|(with_reducible refine Kd.C_drew ?_)));(case side4 => exact HC1_0.out);rintro e w' ⟨rfl,⟨nd,rfl⟩⟩;(try first|exact ⟨rfl,_,World.drewN_drewN _ _ _⟩|exact ⟨rfl,_,Eq.trans (World.drewN_drewN _ _ _) (congrArg (World.drewN _) (Nat.add_assoc _ _ _))⟩))))
    go_meet
    case rel => exact ⟨_,(true),(by first|rfl|(simp;done)|(simp [*];done)),H',⟨by first|omega|exact Nat.le_refl _⟩,⟨by (with_reducible repeat (first|refine bN_ ?_ _|refine bD_ ?_|refine bA_ ?_ _));exact BK256.out⟩,⟨by (with_reducible repeat (first|refine bN_ ?_ _|refine bD_ ?_|refine bA_ ?_ _));exact BK257.out⟩,⟨by repeat (first|(with_reducible first|exact HB.out|apply eA_|apply eN_|apply eD_|refine eS_ ?_ GE256.out|refine eS_ ?_ GE257.out)|exact HB.out)⟩⟩
  ·rw [if_neg c6] at H
   have c6b0 : (a0_2 == a1_2) = false:=beq_eq_false_iff_ne.mpr c6
   have c6b1 : (a0_2 != a1_2) = true:=bne_iff_ne.mpr c6
   (first|rw [c6b0]|(simp only [i64_w,i32_w];rw [c6b0])|skip)
   have H':=A0_.mk H
   clear H
   have hnb15:=NB256_257.out
   have hnc15:=NB257_256.out
   have hcz16_0 : w5.cell? ⟨gb256,0,none⟩ = some (.slice A0_0 l0_0.length c0_0):=(bC_ BK256.out 0).trans rfl
   have hcz16_1 : w5.cell? ⟨gb256,1,none⟩ = some (.slice A0_1 l0_1.length c0_1):=(bC_ BK256.out 1).trans rfl
   have hcz16_2 : w5.cell? ⟨gb256,2,none⟩ = some (.int .i64 a0_2):=(bC_ BK256.out 2).trans rfl
   have hfz16_0:=bF_ BK256.out 0
   have hfz16_1:=bF_ BK256.out 1
   have hfz16_2:=bF_ BK256.out 2
   have hcz17_0 : w5.cell? ⟨gb257,0,none⟩ = some (.slice A1_0 l1_0.length c1_0):=(bC_ BK257.out 0).trans rfl
   have hcz17_1 : w5.cell? ⟨gb257,1,none⟩ = some (.slice A1_1 l1_1.length c1_1):=(bC_ BK257.out 1).trans rfl
   have hcz17_2 : w5.cell? ⟨gb257,2,none⟩ = some (.int .i64 a1_2):=(bC_ BK257.out 2).trans rfl
   have hfz17_0:=bF_ BK257.out 0
   have hfz17_1:=bF_ BK257.out 1
   have hfz17_2:=bF_ BK257.out 2
   go_wp2
   repeat (go_quiet (fail);try go_wp2)
   go_meet
   case rel => exact ⟨_,(true),(by first|rfl|(simp;done)|(simp [*];done)),H',⟨by first|omega|exact Nat.le_refl _⟩,⟨by (with_reducible repeat (first|refine bN_ ?_ _|refine bD_ ?_|refine bA_ ?_ _));exact BK256.out⟩,⟨by (with_reducible repeat (first|refine bN_ ?_ _|refine bD_ ?_|refine bA_ ?_ _));exact BK257.out⟩,⟨by repeat (first|(with_reducible first|exact HB.out|apply eA_|apply eN_|apply eD_|refine eS_ ?_ GE256.out|refine eS_ ?_ GE257.out)|exact HB.out)⟩⟩
 case rest =>
  clear HC3
  try clear c1
  try clear p2
  try clear c4
  try clear c6
  try clear c6b0
  try clear c6b1
  try clear c8
  try clear c9
  try clear c12
  try clear c15
  try clear hcz10_0
  try clear hcz10_1
  try clear hcz10_2
  try clear hcz11_0
  try clear hcz11_1
  try clear hcz11_2
  try clear hcz13_0
  try clear hcz13_1
  try clear hcz13_2
  try clear hcz14_0
  try clear hcz14_1
  try clear hcz14_2
  try clear hcz16_0
  try clear hcz16_1
  try clear hcz16_2
  try clear hcz17_0
  try clear hcz17_1
  try clear hcz17_2
  try clear hfz10_0
  try clear hfz10_1
  try clear hfz10_2
  try clear hfz11_0
  try clear hfz11_1
  try clear hfz11_2
  try clear hfz13_0
  try clear hfz13_1
  try clear hfz13_2
  try clear hfz14_0
  try clear hfz14_1
  try clear hfz14_2
  try clear hfz16_0
  try clear hfz16_1
  try clear hfz16_2
  try clear hfz17_0
  try clear hfz17_1
  try clear hfz17_2
  obtain ⟨kq,x27_2,rfl,HA,HJ2,BK256,BK257,HB⟩:=hcut
  cases kq with
  |zero => exact absurd HA.out (by simp [book_ST.j0])
  |succ kj2 =>
   have H:=HA.out
   clear HA
   simp only [book_ST.j0] at H
   by_cases c18 : x27_2 = true
   ·subst c18
    have H1 : (none) = some r:=by rw [if_pos rfl] at H;exact H
    clear H
    have H:=H1
    clear H1
    exact absurd H (by simp)
   ·replace c18:=Bool.eq_false_iff.mpr c18
    subst c18
    have H1 : (book_ST.l0 kj2 0 l0_0 l0_1 a0_2 l1_0 l1_1 a1_2) = some r:=by rw [if_neg (show ¬ (false = true) by decide)] at H;exact H
    clear H
    have H:=H1
    clear H1
    have H':=A0_.mk H
    clear H
    go_wp2
    repeat (go_quiet (fail);try go_wp2)
    (try simp only [Act.put,List.setIfInBounds_toArray,List.set_cons_zero,List.set_cons_succ])
    go_loopg [5] kj2 (fun kq v5 w' => ∃ (x5_2 : Int),v5 = .int .i64 x5_2 ∧ A0_ (book_ST.l0 kq x5_2 l0_0 l0_1 a0_2 l1_0 l1_1 a1_2 = some r) ∧ A0_ (kq ≤ kj2) ∧ A0_ (w'.heap[gb256]? = some (.cells #[(.slice A0_0 l0_0.length c0_0),(.slice A0_1 l0_1.length c0_1),.int .i64 a0_2] 26 (0,0))) ∧ A0_ (w'.heap[gb257]? = some (.cells #[(.slice A1_0 l1_0.length c1_0),(.slice A1_1 l1_1.length c1_1),.int .i64 a1_2] 26 (0,0))) ∧ A0_ (Below w.heap.size w w'))
    case atStart => exact ⟨(0),(by first|rfl|(simp;done)|(simp [*];done)),H',⟨Nat.le_refl _⟩,⟨by (with_reducible repeat (first|refine bN_ ?_ _|refine bD_ ?_|refine bA_ ?_ _));exact BK256.out⟩,⟨by (with_reducible repeat (first|refine bN_ ?_ _|refine bD_ ?_|refine bA_ ?_ _));exact BK257.out⟩,⟨by repeat (first|(with_reducible first|exact HB.out|apply eA_|apply eN_|apply eD_|refine eS_ ?_ GE256.out|refine eS_ ?_ GE257.out)|exact HB.out)⟩⟩
    case round =>
     clear H'
     try clear c1
     try clear p2
     try clear c4
     try clear c6
     try clear c6b0
     try clear c6b1
     try clear c8
     try clear c9
     try clear c12
     try clear c15
     try clear c18
     try clear hcz10_0
     try clear hcz10_1
     try clear hcz10_2
     try clear hcz11_0
     try clear hcz11_1
     try clear hcz11_2
     try clear hcz13_0
     try clear hcz13_1
     try clear hcz13_2
     try clear hcz14_0
     try clear hcz14_1
     try clear hcz14_2
     try clear hcz16_0
     try clear hcz16_1
     try clear hcz16_2
     try clear hcz17_0
     try clear hcz17_1
     try clear hcz17_2
     try clear hfz10_0
     try clear hfz10_1
     try clear hfz10_2
     try clear hfz11_0
     try clear hfz11_1
     try clear hfz11_2
     try clear hfz13_0
     try clear hfz13_1
     try clear hfz13_2
     try clear hfz14_0
     try clear hfz14_1
     try clear hfz14_2
     try clear hfz16_0
     try clear hfz16_1
     try clear hfz16_2
     try clear hfz17_0
     try clear hfz17_1
     try clear hfz17_2
     try clear p2
     obtain ⟨x5_2,rfl,HA,HK2,BK256,BK257,HB⟩:=hrel
     cases gk with
     |zero => exact absurd HA.out (by simp [book_ST.l0])
     |succ k2 =>
      have H:=HA.out
      clear HA
      simp only [book_ST.l0] at H
      by_cases c19 : x5_2 < (l0_1.length : Int)
      ·rw [if_pos c19] at H
       have c19b0 : decide (x5_2 < (l0_1.length : Int)) = true:=decide_eq_true c19
       clear c19
       by_cases c20 : 0 ≤ x5_2
       ·rw [if_pos c20] at H
        have c20b0 : decide (0 ≤ x5_2) = true:=decide_eq_true c20
        clear c20
        by_cases c21 : x5_2 < (l1_1.length : Int)
        ·rw [if_pos c21] at H
         have c21b0 : decide (x5_2 < (l1_1.length : Int)) = true:=decide_eq_true c21
         clear c21
         replace H:=Option.bind_eq_some_iff.mp H
         obtain ⟨t261,A220,H⟩:=H
         replace H : (if t261 = true then (book_ST.l0 k2 (wrap64 (x5_2 + 1)) l0_0 l0_1 a0_2 l1_0 l1_1 a1_2) else (none)) = some r:=H
         have A22:=A0_.mk A220
         clear A220
         by_cases c23 : t261 = true
         ·subst c23
          have H1 : (book_ST.l0 k2 (wrap64 (x5_2 + 1)) l0_0 l0_1 a0_2 l1_0 l1_1 a1_2) = some r:=by rw [if_pos rfl] at H;exact H
          clear H
          have H:=H1
          clear H1
          have H':=A0_.mk H
          clear H
          have hnb24:=NB256_257.out
          have hnc24:=NB257_256.out
          have hcz25_0 : wr.cell? ⟨gb256,0,none⟩ = some (.slice A0_0 l0_0.length c0_0):=(bC_ BK256.out 0).trans rfl
          have hcz25_1 : wr.cell? ⟨gb256,1,none⟩ = some (.slice A0_1 l0_1.length c0_1):=(bC_ BK256.out 1).trans rfl
          have hcz25_2 : wr.cell? ⟨gb256,2,none⟩ = some (.int .i64 a0_2):=(bC_ BK256.out 2).trans rfl
          have hfz25_0:=bF_ BK256.out 0
          have hfz25_1:=bF_ BK256.out 1
          have hfz25_2:=bF_ BK256.out 2
          have p259 : 0 ≤ (x5_2 : Int):=of_decide_eq_true (by first|(with_reducible assumption)|assumption)
          have q259 : x5_2 < (l0_1.length : Int):=of_decide_eq_true (by first|(with_reducible assumption)|assumption)
          obtain ⟨ad259,A259_0,c259_0,e259,hx259_0,hl259_0,hi259_0⟩:=at_L6 HR0_1.out x5_2 p259 q259
          cases e259
          replace hx259_0:=(HB.out.cell (World.block_lt_of_cell? w _ hx259_0)).trans hx259_0
          have HR259_0:=A0_.mk hi259_0
          have HC259_0:=A0_.mk hl259_0
          clear hi259_0 hl259_0
          replace p259:=eq_true p259
          replace q259:=eq_true q259
          have hcz26_0 : wr.cell? ⟨gb257,0,none⟩ = some (.slice A1_0 l1_0.length c1_0):=(bC_ BK257.out 0).trans rfl
          have hcz26_1 : wr.cell? ⟨gb257,1,none⟩ = some (.slice A1_1 l1_1.length c1_1):=(bC_ BK257.out 1).trans rfl
          have hcz26_2 : wr.cell? ⟨gb257,2,none⟩ = some (.int .i64 a1_2):=(bC_ BK257.out 2).trans rfl
          have hfz26_0:=bF_ BK257.out 0
          have hfz26_1:=bF_ BK257.out 1
          have hfz26_2:=bF_ BK257.out 2
          have p260 : 0 ≤ (x5_2 : Int):=of_decide_eq_true (by first|(with_reducible assumption)|assumption)
          have q260 : x5_2 < (l1_1.length : Int):=of_decide_eq_true (by first|(with_reducible assumption)|assumption)
          obtain ⟨ad260,A260_0,c260_0,e260,hx260_0,hl260_0,hi260_0⟩:=at_L6 HR1_1.out x5_2 p260 q260
          cases e260
          replace hx260_0:=(HB.out.cell (World.block_lt_of_cell? w _ hx260_0)).trans hx260_0
          have HR260_0:=A0_.mk hi260_0
          have HC260_0:=A0_.mk hl260_0
          clear hi260_0 hl260_0
          replace p260:=eq_true p260
          replace q260:=eq_true q260
          go_wp2_with (first|(go_at_call 72;(with_reducible refine (trestlebook_SameBools.calls k2 _ _ (rd_L6 l0_1 x5_2) _ _ (rd_L6 l1_1 x5_2) true _ ?side1 ?side2 ?side3 ?side4 A22.out).mono ?_);(case side1 => repeat (first|exact (Kd.C_below HR259_0.out HB.out)|(with_reducible refine Kd.C_alloc ?_ _)|(with_reducible refine Kd.C_drewN ?_ _)|(with_reducible refine Kd.C_drew ?_)));(case side2 => exact HC259_0.out);(case side3 => repeat (first|exact (Kd.C_below HR260_0.out HB.out)|(with_reducible refine Kd.C_alloc ?_ _)|(with_reducible refine Kd.C_drewN ?_ _)|(with_reducible refine Kd.C_drew ?_)));(case side4 => exact HC260_0.out);rintro e w' ⟨rfl,⟨nd,rfl⟩⟩;(try first|exact ⟨rfl,_,World.drewN_drewN _ _ _⟩|exact ⟨rfl,_,Eq.trans (World.drewN_drewN _ _ _) (congrArg (World.drewN _) (Nat.add_assoc _ _ _))⟩)))
          repeat (go_quiet (first|(go_at_call 72;(with_reducible refine (trestlebook_SameBools.calls k2 _ _ (rd_L6 l0_1 x5_2) _ _ (rd_L6 l1_1 x5_2) true _ ?side1 ?side2 ?side3 ?side4 A22.out).mono ?_);(case side1 => repeat (first|exact (Kd.C_below HR259_0.out HB.out)|(with_reducible refine Kd.C_alloc ?_ _)|(with_reducible refine Kd.C_drewN ?_ _)|(with_reducible refine Kd.C_drew ?_)));(case side2 => exact HC259_0.out);(case side3 => repeat (first|exact (Kd.C_below HR260_0.out HB.out)|(with_reducible refine Kd.C_alloc ?_ _)|(with_reducible refine Kd.C_drewN ?_ _)|(with_reducible refine Kd.C_drew ?_)));(case side4 => exact HC260_0.out);rintro e w' ⟨rfl,⟨nd,rfl⟩⟩;(try first|exact ⟨rfl,_,World.drewN_drewN _ _ _⟩|exact ⟨rfl,_,Eq.trans (World.drewN_drewN _ _ _) (congrArg (World.drewN _) (Nat.add_assoc _ _ _))⟩)));try go_wp2_with (first|(go_at_call 72;(with_reducible refine (trestlebook_SameBools.calls k2 _ _ (rd_L6 l0_1 x5_2) _ _ (rd_L6 l1_1 x5_2) true _ ?side1 ?side2 ?side3 ?side4 A22.out).mono ?_);(case side1 => repeat (first|exact (Kd.C_below HR259_0.out HB.out)|(with_reducible refine Kd.C_alloc ?_ _)|(with_reducible refine Kd.C_drewN ?_ _)|(with_reducible refine Kd.C_drew ?_)));(case side2 => exact HC259_0.out);(case side3 => repeat (first|exact (Kd.C_below HR260_0.out HB.out)|(with_reducible refine Kd.C_alloc ?_ _)|(with_reducible refine Kd.C_drewN ?_ _)|(with_reducible refine Kd.C_drew ?_)));(case side4 => exact HC260_0.out);rintro e w' ⟨rfl,⟨nd,rfl⟩⟩;(try first|exact ⟨rfl,_,World.drewN_drewN _ _ _⟩|exact ⟨rfl,_,Eq.trans (World.drewN_drewN _ _ _) (congrArg (World.drewN _) (Nat.add_assoc _ _ _))⟩))))
          go_roundg k2
          case measure => have:=HJ2.out;have:=HK2.out;omega
          case rel => exact ⟨(wrap64 (x5_2 + 1)),(by first|rfl|(simp;done)|(simp [*];done)),H',⟨by have:=HJ2.out;have:=HK2.out;omega⟩,⟨by (with_reducible repeat (first|refine bN_ ?_ _|refine bD_ ?_|refine bA_ ?_ _));exact BK256.out⟩,⟨by (with_reducible repeat (first|refine bN_ ?_ _|refine bD_ ?_|refine bA_ ?_ _));exact BK257.out⟩,⟨by repeat (first|(with_reducible first|exact HB.out|apply eA_|apply eN_|apply eD_|refine eS_ ?_ GE256.out|refine eS_ ?_ GE257.out)|exact HB.out)⟩⟩
         ·replace c23:=Bool.eq_false_iff.mpr c23
          subst c23
          have H1 : (none) = some r:=by rw [if_neg (show ¬ (false = true) by decide)] at H;exact H
          clear H
          have H:=H1
          clear H1
          exact absurd H (by simp)
        ·rw [if_neg c21] at H
         exact absurd H (by simp)
       ·rw [if_neg c20] at H
        exact absurd H (by simp)
      ·rw [if_neg c19] at H
       have c19b0 : decide (x5_2 < (l0_1.length : Int)) = false:=decide_eq_false c19
       clear c19
       obtain rfl:=Option.some.inj H
       have hnb27:=NB256_257.out
       have hnc27:=NB257_256.out
       have hcz28_0 : wr.cell? ⟨gb256,0,none⟩ = some (.slice A0_0 l0_0.length c0_0):=(bC_ BK256.out 0).trans rfl
       have hcz28_1 : wr.cell? ⟨gb256,1,none⟩ = some (.slice A0_1 l0_1.length c0_1):=(bC_ BK256.out 1).trans rfl
       have hcz28_2 : wr.cell? ⟨gb256,2,none⟩ = some (.int .i64 a0_2):=(bC_ BK256.out 2).trans rfl
       have hfz28_0:=bF_ BK256.out 0
       have hfz28_1:=bF_ BK256.out 1
       have hfz28_2:=bF_ BK256.out 2
       go_wp2
       repeat (go_quiet (fail);try go_wp2)
       go_ret
       exact ⟨by first|rfl|(simp [errW_none,errW_some] <;> rfl)|(simp [*,errW_none,errW_some] <;> rfl),by repeat (first|(with_reducible first|exact HB.out|apply eA_|apply eN_|apply eD_|refine eS_ ?_ GE256.out|refine eS_ ?_ GE257.out)|exact HB.out)⟩
mutual
def trestlelaw12_same.j0 : Nat → Bool → Int → List (S83) → List Bool → List (List Bool) → Int → Int → List (S83) → List Bool → List (List Bool) → Int → Option (Bool)
 |0,_,_,_,_,_,_,_,_,_,_,_ => none
 |k + 1,x27,x263000,x263001,x263002,x263003,x263004,x264000,x264001,x264002,x264003,x264004 => if x27 = true then (none) else (trestlelaw12_same.l0 k 0 x263000 x263001 x263002 x263003 x263004 x264000 x264001 x264002 x264003 x264004)
def trestlelaw12_same.l0 : Nat → Int → Int → List (S83) → List Bool → List (List Bool) → Int → Int → List (S83) → List Bool → List (List Bool) → Int → Option (Bool)
 |0,_,_,_,_,_,_,_,_,_,_,_ => none
 |k + 1,x5,x263000,x263001,x263002,x263003,x263004,x264000,x264001,x264002,x264003,x264004 => if x5 < (x263001.length : Int) then (if 0 ≤ x5 then (if x5 < (x264001.length : Int) then (if (!(((rd_T83 x263001 x5).f0) == ((rd_T83 x264001 x5).f0)) || (!(((rd_T83 x263001 x5).f1) == ((rd_T83 x264001 x5).f1)))) = true then (none) else (trestlelaw12_same.l0 k (wrap64 (x5 + 1)) x263000 x263001 x263002 x263003 x263004 x264000 x264001 x264002 x264003 x264004)) else (none)) else (none)) else (some true)
end
def trestlelaw12_same.f (k : Nat) (a0_0 : Int) (l0_1 : List (S83)) (l0_2 : List Bool) (l0_3 : List (List Bool)) (a0_4 : Int) (a1_0 : Int) (l1_1 : List (S83)) (l1_2 : List Bool) (l1_3 : List (List Bool)) (a1_4 : Int) : Option (Bool):=if a0_0 = a1_0 then (if (l0_1.length : Int) = (l1_1.length : Int) then ((book_ST.f k l0_2 l0_3 a0_4 l1_2 l1_3 a1_4).bind fun t264 => (trestlelaw12_same.j0 k (!t264) a0_0 l0_1 l0_2 l0_3 a0_4 a1_0 l1_1 l1_2 l1_3 a1_4)) else (trestlelaw12_same.j0 k true a0_0 l0_1 l0_2 l0_3 a0_4 a1_0 l1_1 l1_2 l1_3 a1_4)) else (trestlelaw12_same.j0 k true a0_0 l0_1 l0_2 l0_3 a0_4 a1_0 l1_1 l1_2 l1_3 a1_4)
theorem trestlelaw12_same.mono_l : ∀ k,(∀ y0 y1 y2 y3 y4 y5 y6 y7 y8 y9 y10,LeO (trestlelaw12_same.j0 k y0 y1 y2 y3 y4 y5 y6 y7 y8 y9 y10) (trestlelaw12_same.j0 (k + 1) y0 y1 y2 y3 y4 y5 y6 y7 y8 y9 y10)) ∧ (∀ y0 y1 y2 y3 y4 y5 y6 y7 y8 y9 y10,LeO (trestlelaw12_same.l0 k y0 y1 y2 y3 y4 y5 y6 y7 y8 y9 y10) (trestlelaw12_same.l0 (k + 1) y0 y1 y2 y3 y4 y5 y6 y7 y8 y9 y10))
 |0 => ⟨fun _ _ _ _ _ _ _ _ _ _ _ r h => by simp [trestlelaw12_same.j0] at h,fun _ _ _ _ _ _ _ _ _ _ _ r h => by simp [trestlelaw12_same.l0] at h⟩
 |k + 1 => by
  obtain ⟨ih0,ih1⟩:=trestlelaw12_same.mono_l k
  refine ⟨?_,?_⟩
  ·intro y0 y1 y2 y3 y4 y5 y6 y7 y8 y9 y10
   unfold trestlelaw12_same.j0
   repeat' first
   |(with_reducible exact ih0 _ _ _ _ _ _ _ _ _ _ _)
   |(with_reducible exact ih1 _ _ _ _ _ _ _ _ _ _ _)
   |(with_reducible exact book_ST.mono _ _ _ _ _ _ _)
   |(with_reducible exact LeO.refl _)
   |(with_reducible exact LeO.none _)
   |(with_reducible refine LeO.ite ?_ ?_)
   |(with_reducible refine LeO.bind ?_ (fun _ => ?_))
   |exact ih0 _ _ _ _ _ _ _ _ _ _ _
   |exact ih1 _ _ _ _ _ _ _ _ _ _ _
   |exact book_ST.mono _ _ _ _ _ _ _
   |exact LeO.none _
   |refine LeO.ite ?_ ?_
   |refine LeO.bind ?_ (fun _ => ?_)
  ·intro y0 y1 y2 y3 y4 y5 y6 y7 y8 y9 y10
   unfold trestlelaw12_same.l0
   repeat' first
   |(with_reducible exact ih0 _ _ _ _ _ _ _ _ _ _ _)
   |(with_reducible exact ih1 _ _ _ _ _ _ _ _ _ _ _)
   |(with_reducible exact book_ST.mono _ _ _ _ _ _ _)
   |(with_reducible exact LeO.refl _)
   |(with_reducible exact LeO.none _)
   |(with_reducible refine LeO.ite ?_ ?_)
   |(with_reducible refine LeO.bind ?_ (fun _ => ?_))
   |exact ih0 _ _ _ _ _ _ _ _ _ _ _
   |exact ih1 _ _ _ _ _ _ _ _ _ _ _
   |exact book_ST.mono _ _ _ _ _ _ _
   |exact LeO.none _
   |refine LeO.ite ?_ ?_
   |refine LeO.bind ?_ (fun _ => ?_)
theorem trestlelaw12_same.mono : ∀ a0 a1 a2 a3 a4 a5 a6 a7 a8 a9 k,LeO (trestlelaw12_same.f k a0 a1 a2 a3 a4 a5 a6 a7 a8 a9) (trestlelaw12_same.f (k + 1) a0 a1 a2 a3 a4 a5 a6 a7 a8 a9):=by
 intro a0 a1 a2 a3 a4 a5 a6 a7 a8 a9 k
 obtain ⟨ih0,ih1⟩:=trestlelaw12_same.mono_l k
 unfold trestlelaw12_same.f
 repeat' first
   |(with_reducible exact ih0 _ _ _ _ _ _ _ _ _ _ _)
   |(with_reducible exact ih1 _ _ _ _ _ _ _ _ _ _ _)
   |(with_reducible exact book_ST.mono _ _ _ _ _ _ _)
   |(with_reducible exact LeO.refl _)
   |(with_reducible exact LeO.none _)
   |(with_reducible refine LeO.ite ?_ ?_)
   |(with_reducible refine LeO.bind ?_ (fun _ => ?_))
   |exact ih0 _ _ _ _ _ _ _ _ _ _ _
   |exact ih1 _ _ _ _ _ _ _ _ _ _ _
   |exact book_ST.mono _ _ _ _ _ _ _
   |exact LeO.none _
   |refine LeO.ite ?_ ?_
   |refine LeO.bind ?_ (fun _ => ?_)
set_option maxHeartbeats 8000000 in
set_option maxRecDepth 100000 in
theorem trestlelaw12_same.calls (k : Nat) (a0_0 : Int) (A0_1 : Option Addr) (c0_1 : Nat) (l0_1 : List (S83)) (A0_2 : Option Addr) (c0_2 : Nat) (l0_2 : List Bool) (A0_3 : Option Addr) (c0_3 : Nat) (l0_3 : List (List Bool)) (a0_4 : Int) (a1_0 : Int) (A1_1 : Option Addr) (c1_1 : Nat) (l1_1 : List (S83)) (A1_2 : Option Addr) (c1_2 : Nat) (l1_2 : List Bool) (A1_3 : Option Addr) (c1_3 : Nat) (l1_3 : List (List Bool)) (a1_4 : Int) (r : Bool) (w : World) (hr0_1 : Kd.C k83 w A0_1 l0_1.length l0_1) (hc0_1 : l0_1.length ≤ c0_1) (hr0_2 : Kd.C Kd.bool w A0_2 l0_2.length l0_2) (hc0_2 : l0_2.length ≤ c0_2) (hr0_3 : Kd.C (Kd.slice 4 Kd.bool) w A0_3 l0_3.length l0_3) (hc0_3 : l0_3.length ≤ c0_3) (hr1_1 : Kd.C k83 w A1_1 l1_1.length l1_1) (hc1_1 : l1_1.length ≤ c1_1) (hr1_2 : Kd.C Kd.bool w A1_2 l1_2.length l1_2) (hc1_2 : l1_2.length ≤ c1_2) (hr1_3 : Kd.C (Kd.slice 4 Kd.bool) w A1_3 l1_3.length l1_3) (hc1_3 : l1_3.length ≤ c1_3) (h : trestlelaw12_same.f k a0_0 l0_1 l0_2 l0_3 a0_4 a1_0 l1_1 l1_2 l1_3 a1_4 = some r) :
  Calls Tryd.prog 17 #[.agg #[.int .i64 a0_0,.slice A0_1 l0_1.length c0_1,.slice A0_2 l0_2.length c0_2,.slice A0_3 l0_3.length c0_3,.int .i64 a0_4],.agg #[.int .i64 a1_0,.slice A1_1 l1_1.length c1_1,.slice A1_2 l1_2.length c1_2,.slice A1_3 l1_3.length c1_3,.int .i64 a1_4]] w fun e w' => e = .returned (.bool r) ∧ Below w.heap.size w w':=by
 have hu28:=Tryd.underlying28
 have hu26:=Tryd.underlying26
 have hu83:=Tryd.underlying83
 have HR0_1:=A0_.mk hr0_1
 have HC0_1:=A0_.mk hc0_1
 clear hr0_1 hc0_1
 have HR0_2:=A0_.mk hr0_2
 have HC0_2:=A0_.mk hc0_2
 clear hr0_2 hc0_2
 have HR0_3:=A0_.mk hr0_3
 have HC0_3:=A0_.mk hc0_3
 clear hr0_3 hc0_3
 have HR1_1:=A0_.mk hr1_1
 have HC1_1:=A0_.mk hc1_1
 clear hr1_1 hc1_1
 have HR1_2:=A0_.mk hr1_2
 have HC1_2:=A0_.mk hc1_2
 clear hr1_2 hc1_2
 have HR1_3:=A0_.mk hr1_3
 have HC1_3:=A0_.mk hc1_3
 clear hr1_3 hc1_3
 have HB:=A0_.mk (Below.refl w.heap.size w)
 have H : (if a0_0 = a1_0 then (if (l0_1.length : Int) = (l1_1.length : Int) then ((book_ST.f k l0_2 l0_3 a0_4 l1_2 l1_3 a1_4).bind fun t264 => (trestlelaw12_same.j0 k (!t264) a0_0 l0_1 l0_2 l0_3 a0_4 a1_0 l1_1 l1_2 l1_3 a1_4)) else (trestlelaw12_same.j0 k true a0_0 l0_1 l0_2 l0_3 a0_4 a1_0 l1_1 l1_2 l1_3 a1_4)) else (trestlelaw12_same.j0 k true a0_0 l0_1 l0_2 l0_3 a0_4 a1_0 l1_1 l1_2 l1_3 a1_4)) = some r:=h
 clear h
 have HC3:=A0_.mk H
 clear H
 go_enter Tryd.func17,Tryd.ntmps17
 go_upto_region 1 with (first|((with_reducible refine gate_dst (N:=2) rfl ?_);(try (refine gate_guard (by rfl) ?_;dsimp only));refine box_event ?hg (N:=2) ?hd (cs:=#[.int .i64 a0_0,.slice A0_1 l0_1.length c0_1,.slice A0_2 l0_2.length c0_2,.slice A0_3 l0_3.length c0_3,.int .i64 a0_4]) (t:=28) ?hr ?_;(case hd => rfl);(case hg => rfl);(case hr => first|(go_simp;done)|(go_simp;rfl));intro gb262 hg w4 hbox hb;have n0_:=A0_.mk (below_step (by repeat (first|(with_reducible first|exact HB.out|apply eA_|apply eN_|apply eD_)|exact HB.out)) hb);have n1_:=A0_.mk (hbox);have n2_:=A0_.mk ((by rw [hg];exact (below_size (by repeat (first|(with_reducible first|exact HB.out|apply eA_|apply eN_|apply eD_)|exact HB.out))) : w.heap.size ≤ gb262));have n3_:=A0_.mk ((by rw [hg];exact (below_size (by repeat (first|(with_reducible first|exact HB.out|apply eA_|apply eN_|apply eD_)|exact HB.out))) : w.heap.size ≤ gb262));clear HB;have HB:=n0_;have BK262:=n1_;have GW262:=n2_;have GE262:=n3_;clear n0_ n1_ n2_ n3_;clear hb hbox hg)|((with_reducible refine gate_dst (N:=3) rfl ?_);(try (refine gate_guard (by rfl) ?_;dsimp only));refine box_event ?hg (N:=3) ?hd (cs:=#[.int .i64 a1_0,.slice A1_1 l1_1.length c1_1,.slice A1_2 l1_2.length c1_2,.slice A1_3 l1_3.length c1_3,.int .i64 a1_4]) (t:=28) ?hr ?_;(case hd => rfl);(case hg => rfl);(case hr => first|(go_simp;done)|(go_simp;rfl));intro gb263 hg w5 hbox hb;have n0_:=A0_.mk (blk_below (g:=gb262) (o:=.cells #[.int .i64 a0_0,.slice A0_1 l0_1.length c0_1,.slice A0_2 l0_2.length c0_2,.slice A0_3 l0_3.length c0_3,.int .i64 a0_4] 28 (0,0)) (by (with_reducible repeat (first|refine bN_ ?_ _|refine bD_ ?_|refine bA_ ?_ _));exact BK262.out) hb);have n1_:=A0_.mk (below_step (by repeat (first|(with_reducible first|exact HB.out|apply eA_|apply eN_|apply eD_|refine eS_ ?_ GE262.out)|exact HB.out)) hb);have n2_:=A0_.mk (hbox);have n3_:=A0_.mk ((by rw [hg];exact (below_size (by repeat (first|(with_reducible first|exact HB.out|apply eA_|apply eN_|apply eD_|refine eS_ ?_ GE262.out)|exact HB.out))) : w.heap.size ≤ gb263));have n4_:=A0_.mk ((by rw [hg];exact (below_size (by repeat (first|(with_reducible first|exact HB.out|apply eA_|apply eN_|apply eD_|refine eS_ ?_ GE262.out)|exact HB.out))) : w.heap.size ≤ gb263));have n5_:=A0_.mk ((by rw [hg];exact Nat.ne_of_lt (blk_lt (g:=gb262) (o:=.cells #[.int .i64 a0_0,.slice A0_1 l0_1.length c0_1,.slice A0_2 l0_2.length c0_2,.slice A0_3 l0_3.length c0_3,.int .i64 a0_4] 28 (0,0)) (by (with_reducible repeat (first|refine bN_ ?_ _|refine bD_ ?_|refine bA_ ?_ _));exact BK262.out)) : gb262 ≠ gb263));have n6_:=A0_.mk ((by rw [hg];exact Nat.ne_of_gt (blk_lt (g:=gb262) (o:=.cells #[.int .i64 a0_0,.slice A0_1 l0_1.length c0_1,.slice A0_2 l0_2.length c0_2,.slice A0_3 l0_3.length c0_3,.int .i64 a0_4] 28 (0,0)) (by (with_reducible repeat (first|refine bN_ ?_ _|refine bD_ ?_|refine bA_ ?_ _));exact BK262.out)) : gb263 ≠ gb262));clear BK262;clear HB;have BK262:=n0_;have HB:=n1_;have BK263:=n2_;have GW263:=n3_;have GE263:=n4_;have NB262_263:=n5_;have NB263_262:=n6_;clear n0_ n1_ n2_ n3_ n4_ n5_ n6_;clear hb hbox hg))
 repeat (go_quiet (first|((with_reducible refine gate_dst (N:=2) rfl ?_);(try (refine gate_guard (by rfl) ?_;dsimp only));refine box_event ?hg (N:=2) ?hd (cs:=#[.int .i64 a0_0,.slice A0_1 l0_1.length c0_1,.slice A0_2 l0_2.length c0_2,.slice A0_3 l0_3.length c0_3,.int .i64 a0_4]) (t:=28) ?hr ?_;(case hd => rfl);(case hg => rfl);(case hr => first|(go_simp;done)|(go_simp;rfl));intro gb262 hg w4 hbox hb;have n0_:=A0_.mk (below_step (by repeat (first|(with_reducible first|exact HB.out|apply eA_|apply eN_|apply eD_)|exact HB.out)) hb);have n1_:=A0_.mk (hbox);have n2_:=A0_.mk ((by rw [hg];exact (below_size (by repeat (first|(with_reducible first|exact HB.out|apply eA_|apply eN_|apply eD_)|exact HB.out))) : w.heap.size ≤ gb262));have n3_:=A0_.mk ((by rw [hg];exact (below_size (by repeat (first|(with_reducible first|exact HB.out|apply eA_|apply eN_|apply eD_)|exact HB.out))) : w.heap.size ≤ gb262));clear HB;have HB:=n0_;have BK262:=n1_;have GW262:=n2_;have GE262:=n3_;clear n0_ n1_ n2_ n3_;clear hb hbox hg)|((with_reducible refine gate_dst (N:=3) rfl ?_);(try (refine gate_guard (by rfl) ?_;dsimp only));refine box_event ?hg (N:=3) ?hd (cs:=#[.int .i64 a1_0,.slice A1_1 l1_1.length c1_1,.slice A1_2 l1_2.length c1_2,.slice A1_3 l1_3.length c1_3,.int .i64 a1_4]) (t:=28) ?hr ?_;(case hd => rfl);(case hg => rfl);(case hr => first|(go_simp;done)|(go_simp;rfl));intro gb263 hg w5 hbox hb;have n0_:=A0_.mk (blk_below (g:=gb262) (o:=.cells #[.int .i64 a0_0,.slice A0_1 l0_1.length c0_1,.slice A0_2 l0_2.length c0_2,.slice A0_3 l0_3.length c0_3,.int .i64 a0_4] 28 (0,0)) (by (with_reducible repeat (first|refine bN_ ?_ _|refine bD_ ?_|refine bA_ ?_ _));exact BK262.out) hb);have n1_:=A0_.mk (below_step (by repeat (first|(with_reducible first|exact HB.out|apply eA_|apply eN_|apply eD_|refine eS_ ?_ GE262.out)|exact HB.out)) hb);have n2_:=A0_.mk (hbox);have n3_:=A0_.mk ((by rw [hg];exact (below_size (by repeat (first|(with_reducible first|exact HB.out|apply eA_|apply eN_|apply eD_|refine eS_ ?_ GE262.out)|exact HB.out))) : w.heap.size ≤ gb263));have n4_:=A0_.mk ((by rw [hg];exact (below_size (by repeat (first|(with_reducible first|exact HB.out|apply eA_|apply eN_|apply eD_|refine eS_ ?_ GE262.out)|exact HB.out))) : w.heap.size ≤ gb263));have n5_:=A0_.mk ((by rw [hg];exact Nat.ne_of_lt (blk_lt (g:=gb262) (o:=.cells #[.int .i64 a0_0,.slice A0_1 l0_1.length c0_1,.slice A0_2 l0_2.length c0_2,.slice A0_3 l0_3.length c0_3,.int .i64 a0_4] 28 (0,0)) (by (with_reducible repeat (first|refine bN_ ?_ _|refine bD_ ?_|refine bA_ ?_ _));exact BK262.out)) : gb262 ≠ gb263));have n6_:=A0_.mk ((by rw [hg];exact Nat.ne_of_gt (blk_lt (g:=gb262) (o:=.cells #[.int .i64 a0_0,.slice A0_1 l0_1.length c0_1,.slice A0_2 l0_2.length c0_2,.slice A0_3 l0_3.length c0_3,.int .i64 a0_4] 28 (0,0)) (by (with_reducible repeat (first|refine bN_ ?_ _|refine bD_ ?_|refine bA_ ?_ _));exact BK262.out)) : gb263 ≠ gb262));clear BK262;clear HB;have BK262:=n0_;have HB:=n1_;have BK263:=n2_;have GW263:=n3_;have GE263:=n4_;have NB262_263:=n5_;have NB263_262:=n6_;clear n0_ n1_ n2_ n3_ n4_ n5_ n6_;clear hb hbox hg));go_upto_region 1 with (first|((with_reducible refine gate_dst (N:=2) rfl ?_);(try (refine gate_guard (by rfl) ?_;dsimp only));refine box_event ?hg (N:=2) ?hd (cs:=#[.int .i64 a0_0,.slice A0_1 l0_1.length c0_1,.slice A0_2 l0_2.length c0_2,.slice A0_3 l0_3.length c0_3,.int .i64 a0_4]) (t:=28) ?hr ?_;(case hd => rfl);(case hg => rfl);(case hr => first|(go_simp;done)|(go_simp;rfl));intro gb262 hg w4 hbox hb;have n0_:=A0_.mk (below_step (by repeat (first|(with_reducible first|exact HB.out|apply eA_|apply eN_|apply eD_)|exact HB.out)) hb);have n1_:=A0_.mk (hbox);have n2_:=A0_.mk ((by rw [hg];exact (below_size (by repeat (first|(with_reducible first|exact HB.out|apply eA_|apply eN_|apply eD_)|exact HB.out))) : w.heap.size ≤ gb262));have n3_:=A0_.mk ((by rw [hg];exact (below_size (by repeat (first|(with_reducible first|exact HB.out|apply eA_|apply eN_|apply eD_)|exact HB.out))) : w.heap.size ≤ gb262));clear HB;have HB:=n0_;have BK262:=n1_;have GW262:=n2_;have GE262:=n3_;clear n0_ n1_ n2_ n3_;clear hb hbox hg)|((with_reducible refine gate_dst (N:=3) rfl ?_);(try (refine gate_guard (by rfl) ?_;dsimp only));refine box_event ?hg (N:=3) ?hd (cs:=#[.int .i64 a1_0,.slice A1_1 l1_1.length c1_1,.slice A1_2 l1_2.length c1_2,.slice A1_3 l1_3.length c1_3,.int .i64 a1_4]) (t:=28) ?hr ?_;(case hd => rfl);(case hg => rfl);(case hr => first|(go_simp;done)|(go_simp;rfl));intro gb263 hg w5 hbox hb;have n0_:=A0_.mk (blk_below (g:=gb262) (o:=.cells #[.int .i64 a0_0,.slice A0_1 l0_1.length c0_1,.slice A0_2 l0_2.length c0_2,.slice A0_3 l0_3.length c0_3,.int .i64 a0_4] 28 (0,0)) (by (with_reducible repeat (first|refine bN_ ?_ _|refine bD_ ?_|refine bA_ ?_ _));exact BK262.out) hb);have n1_:=A0_.mk (below_step (by repeat (first|(with_reducible first|exact HB.out|apply eA_|apply eN_|apply eD_|refine eS_ ?_ GE262.out)|exact HB.out)) hb);have n2_:=A0_.mk (hbox);have n3_:=A0_.mk ((by rw [hg];exact (below_size (by repeat (first|(with_reducible first|exact HB.out|apply eA_|apply eN_|apply eD_|refine eS_ ?_ GE262.out)|exact HB.out))) : w.heap.size ≤ gb263));have n4_:=A0_.mk ((by rw [hg];exact (below_size (by repeat (first|(with_reducible first|exact HB.out|apply eA_|apply eN_|apply eD_|refine eS_ ?_ GE262.out)|exact HB.out))) : w.heap.size ≤ gb263));have n5_:=A0_.mk ((by rw [hg];exact Nat.ne_of_lt (blk_lt (g:=gb262) (o:=.cells #[.int .i64 a0_0,.slice A0_1 l0_1.length c0_1,.slice A0_2 l0_2.length c0_2,.slice A0_3 l0_3.length c0_3,.int .i64 a0_4] 28 (0,0)) (by (with_reducible repeat (first|refine bN_ ?_ _|refine bD_ ?_|refine bA_ ?_ _));exact BK262.out)) : gb262 ≠ gb263));have n6_:=A0_.mk ((by rw [hg];exact Nat.ne_of_gt (blk_lt (g:=gb262) (o:=.cells #[.int .i64 a0_0,.slice A0_1 l0_1.length c0_1,.slice A0_2 l0_2.length c0_2,.slice A0_3 l0_3.length c0_3,.int .i64 a0_4] 28 (0,0)) (by (with_reducible repeat (first|refine bN_ ?_ _|refine bD_ ?_|refine bA_ ?_ _));exact BK262.out)) : gb263 ≠ gb262));clear BK262;clear HB;have BK262:=n0_;have HB:=n1_;have BK263:=n2_;have GW263:=n3_;have GE263:=n4_;have NB262_263:=n5_;have NB263_262:=n6_;clear n0_ n1_ n2_ n3_ n4_ n5_ n6_;clear hb hbox hg)))
 (try simp only [Act.put,List.setIfInBounds_toArray,List.set_cons_zero,List.set_cons_succ])
 go_cut [27] (fun v27 wc => ∃ (kq : Nat) (x27_2 : Bool),v27 = .bool x27_2 ∧ A0_ (trestlelaw12_same.j0 kq x27_2 a0_0 l0_1 l0_2 l0_3 a0_4 a1_0 l1_1 l1_2 l1_3 a1_4 = some r) ∧ A0_ (kq ≤ k) ∧ A0_ (wc.heap[gb262]? = some (.cells #[.int .i64 a0_0,(.slice A0_1 l0_1.length c0_1),(.slice A0_2 l0_2.length c0_2),(.slice A0_3 l0_3.length c0_3),.int .i64 a0_4] 28 (0,0))) ∧ A0_ (wc.heap[gb263]? = some (.cells #[.int .i64 a1_0,(.slice A1_1 l1_1.length c1_1),(.slice A1_2 l1_2.length c1_2),(.slice A1_3 l1_3.length c1_3),.int .i64 a1_4] 28 (0,0))) ∧ A0_ (Below w.heap.size w wc))
 case first =>
  have H:=HC3.out
  clear HC3
  by_cases c6 : a0_0 = a1_0
  ·rw [if_pos c6] at H
   have c6b0 : (a0_0 == a1_0) = true:=beq_iff_eq.mpr c6
   have c6b1 : (a0_0 != a1_0) = false:=bne_eq_false_iff_eq.mpr c6
   clear c6
   (first|rw [c6b0]|(simp only [i64_w,i32_w];rw [c6b0])|skip)
   by_cases c7 : (l0_1.length : Int) = (l1_1.length : Int)
   ·rw [if_pos c7] at H
    have c7b0 : ((l0_1.length : Int) == (l1_1.length : Int)) = true:=beq_iff_eq.mpr c7
    have c7b1 : ((l0_1.length : Int) != (l1_1.length : Int)) = false:=bne_eq_false_iff_eq.mpr c7
    have c7b2 : (l0_1.length == l1_1.length) = true:=by first|simpa using c7|(simp at c7 ⊢;omega)
    clear c7
    replace H:=Option.bind_eq_some_iff.mp H
    obtain ⟨t264,A80,H⟩:=H
    replace H : (trestlelaw12_same.j0 k (!t264) a0_0 l0_1 l0_2 l0_3 a0_4 a1_0 l1_1 l1_2 l1_3 a1_4) = some r:=H
    have A8:=A0_.mk A80
    clear A80
    have H':=A0_.mk H
    clear H
    have hnb9:=NB262_263.out
    have hnc9:=NB263_262.out
    have hcz10_0 : w5.cell? ⟨gb262,0,none⟩ = some (.int .i64 a0_0):=(bC_ BK262.out 0).trans rfl
    have hcz10_1 : w5.cell? ⟨gb262,1,none⟩ = some (.slice A0_1 l0_1.length c0_1):=(bC_ BK262.out 1).trans rfl
    have hcz10_2 : w5.cell? ⟨gb262,2,none⟩ = some (.slice A0_2 l0_2.length c0_2):=(bC_ BK262.out 2).trans rfl
    have hcz10_3 : w5.cell? ⟨gb262,3,none⟩ = some (.slice A0_3 l0_3.length c0_3):=(bC_ BK262.out 3).trans rfl
    have hcz10_4 : w5.cell? ⟨gb262,4,none⟩ = some (.int .i64 a0_4):=(bC_ BK262.out 4).trans rfl
    have hfz10_0:=bF_ BK262.out 0
    have hfz10_1:=bF_ BK262.out 1
    have hfz10_2:=bF_ BK262.out 2
    have hfz10_3:=bF_ BK262.out 3
    have hfz10_4:=bF_ BK262.out 4
    have hcz11_0 : w5.cell? ⟨gb263,0,none⟩ = some (.int .i64 a1_0):=(bC_ BK263.out 0).trans rfl
    have hcz11_1 : w5.cell? ⟨gb263,1,none⟩ = some (.slice A1_1 l1_1.length c1_1):=(bC_ BK263.out 1).trans rfl
    have hcz11_2 : w5.cell? ⟨gb263,2,none⟩ = some (.slice A1_2 l1_2.length c1_2):=(bC_ BK263.out 2).trans rfl
    have hcz11_3 : w5.cell? ⟨gb263,3,none⟩ = some (.slice A1_3 l1_3.length c1_3):=(bC_ BK263.out 3).trans rfl
    have hcz11_4 : w5.cell? ⟨gb263,4,none⟩ = some (.int .i64 a1_4):=(bC_ BK263.out 4).trans rfl
    have hfz11_0:=bF_ BK263.out 0
    have hfz11_1:=bF_ BK263.out 1
    have hfz11_2:=bF_ BK263.out 2
    have hfz11_3:=bF_ BK263.out 3
    have hfz11_4:=bF_ BK263.out 4
    go_wp2_with (first|(go_at_call 45;(with_reducible refine (book_ST.calls k _ _ l0_2 _ _ l0_3 a0_4 _ _ l1_2 _ _ l1_3 a1_4 t264 _ ?side1 ?side2 ?side3 ?side4 ?side5 ?side6 ?side7 ?side8 A8.out).mono ?_);(case side1 => repeat (first|exact (Kd.C_below HR0_2.out HB.out)|(with_reducible refine Kd.C_alloc ?_ _)|(with_reducible refine Kd.C_drewN ?_ _)|(with_reducible refine Kd.C_drew ?_)));(case side2 => exact HC0_2.out);(case side3 => repeat (first|exact (Kd.C_below HR0_3.out HB.out)|(with_reducible refine Kd.C_alloc ?_ _)|(with_reducible refine Kd.C_drewN ?_ _)|(with_reducible refine Kd.C_drew ?_)));(case side4 => exact HC0_3.out);(case side5 => repeat (first|exact (Kd.C_below HR1_2.out HB.out)|(with_reducible refine Kd.C_alloc ?_ _)|(with_reducible refine Kd.C_drewN ?_ _)|(with_reducible refine Kd.C_drew ?_)));(case side6 => exact HC1_2.out);(case side7 => repeat (first|exact (Kd.C_below HR1_3.out HB.out)|(with_reducible refine Kd.C_alloc ?_ _)|(with_reducible refine Kd.C_drewN ?_ _)|(with_reducible refine Kd.C_drew ?_)));(case side8 => exact HC1_3.out);rintro e w12 ⟨rfl,hb⟩;have n0_:=A0_.mk (blk_below (g:=gb262) (o:=.cells #[.int .i64 a0_0,.slice A0_1 l0_1.length c0_1,.slice A0_2 l0_2.length c0_2,.slice A0_3 l0_3.length c0_3,.int .i64 a0_4] 28 (0,0)) (by (with_reducible repeat (first|refine bN_ ?_ _|refine bD_ ?_|refine bA_ ?_ _));exact BK262.out) hb);have n1_:=A0_.mk (blk_below (g:=gb263) (o:=.cells #[.int .i64 a1_0,.slice A1_1 l1_1.length c1_1,.slice A1_2 l1_2.length c1_2,.slice A1_3 l1_3.length c1_3,.int .i64 a1_4] 28 (0,0)) (by (with_reducible repeat (first|refine bN_ ?_ _|refine bD_ ?_|refine bA_ ?_ _));exact BK263.out) hb);have n2_:=A0_.mk (below_step (by repeat (first|(with_reducible first|exact HB.out|apply eA_|apply eN_|apply eD_|refine eS_ ?_ GE262.out|refine eS_ ?_ GE263.out)|exact HB.out)) hb);clear BK262;clear BK263;clear HB;have BK262:=n0_;have BK263:=n1_;have HB:=n2_;clear n0_ n1_ n2_;(try clear hb);(try clear hb2);(try clear hk);(try clear hi)))
    repeat (go_quiet (first|(go_at_call 45;(with_reducible refine (book_ST.calls k _ _ l0_2 _ _ l0_3 a0_4 _ _ l1_2 _ _ l1_3 a1_4 t264 _ ?side1 ?side2 ?side3 ?side4 ?side5 ?side6 ?side7 ?side8 A8.out).mono ?_);(case side1 => repeat (first|exact (Kd.C_below HR0_2.out HB.out)|(with_reducible refine Kd.C_alloc ?_ _)|(with_reducible refine Kd.C_drewN ?_ _)|(with_reducible refine Kd.C_drew ?_)));(case side2 => exact HC0_2.out);(case side3 => repeat (first|exact (Kd.C_below HR0_3.out HB.out)|(with_reducible refine Kd.C_alloc ?_ _)|(with_reducible refine Kd.C_drewN ?_ _)|(with_reducible refine Kd.C_drew ?_)));(case side4 => exact HC0_3.out);(case side5 => repeat (first|exact (Kd.C_below HR1_2.out HB.out)|(with_reducible refine Kd.C_alloc ?_ _)|(with_reducible refine Kd.C_drewN ?_ _)|(with_reducible refine Kd.C_drew ?_)));(case side6 => exact HC1_2.out);(case side7 => repeat (first|exact (Kd.C_below HR1_3.out HB.out)|(with_reducible refine Kd.C_alloc ?_ _)|(with_reducible refine Kd.C_drewN ?_ _)|(with_reducible refine Kd.C_drew ?_)));(case side8 => exact HC1_3.out);rintro e w12 ⟨rfl,hb⟩;have n0_:=A0_.mk (blk_below (g:=gb262) (o:=.cells #[.int .i64 a0_0,.slice A0_1 l0_1.length c0_1,.slice A0_2 l0_2.length c0_2,.slice A0_3 l0_3.length c0_3,.int .i64 a0_4] 28 (0,0)) (by (with_reducible repeat (first|refine bN_ ?_ _|refine bD_ ?_|refine bA_ ?_ _));exact BK262.out) hb);have n1_:=A0_.mk (blk_below (g:=gb263) (o:=.cells #[.int .i64 a1_0,.slice A1_1 l1_1.length c1_1,.slice A1_2 l1_2.length c1_2,.slice A1_3 l1_3.length c1_3,.int .i64 a1_4] 28 (0,0)) (by (with_reducible repeat (first|refine bN_ ?_ _|refine bD_ ?_|refine bA_ ?_ _));exact BK263.out) hb);have n2_:=A0_.mk (below_step (by repeat (first|(with_reducible first|exact HB.out|apply eA_|apply eN_|apply eD_|refine eS_ ?_ GE262.out|refine eS_ ?_ GE263.out)|exact HB.out)) hb);clear BK262;clear BK263;clear HB;have BK262:=n0_;have BK263:=n1_;have HB:=n2_;clear n0_ n1_ n2_;(try clear hb);(try clear hb2);(try clear hk);(try clear hi)));try go_wp2_with (first|(go_at_call 45;(with_reducible refine (book_ST.calls k _ _ l0_2 _ _ l0_3 a0_4 _ _ l1_2 _ _ l1_3 a1_4 t264 _ ?side1 ?side2 ?side3 ?side4 ?side5 ?side6 ?side7 ?side8 A8.out).mono ?_);(case side1 => repeat (first|exact (Kd.C_below HR0_2.out HB.out)|(with_reducible refine Kd.C_alloc ?_ _)|(with_reducible refine Kd.C_drewN ?_ _)|(with_reducible refine Kd.C_drew ?_)));(case side2 => exact HC0_2.out);(case side3 => repeat (first|exact (Kd.C_below HR0_3.out HB.out)|(with_reducible refine Kd.C_alloc ?_ _)|(with_reducible refine Kd.C_drewN ?_ _)|(with_reducible refine Kd.C_drew ?_)));(case side4 => exact HC0_3.out);(case side5 => repeat (first|exact (Kd.C_below HR1_2.out HB.out)|(with_reducible refine Kd.C_alloc ?_ _)|(with_reducible refine Kd.C_drewN ?_ _)|(with_reducible refine Kd.C_drew ?_)));(case side6 => exact HC1_2.out);(case side7 => repeat (first|exact (Kd.C_below HR1_3.out HB.out)|(with_reducible refine Kd.C_alloc ?_ _)|(with_reducible refine Kd.C_drewN ?_ _)|(with_reducible refine Kd.C_drew ?_)));(case side8 => exact HC1_3.out);rintro e w12 ⟨rfl,hb⟩;have n0_:=A0_.mk (blk_below (g:=gb262) (o:=.cells #[.int .i64 a0_0,.slice A0_1 l0_1.length c0_1,.slice A0_2 l0_2.length c0_2,.slice A0_3 l0_3.length c0_3,.int .i64 a0_4] 28 (0,0)) (by (with_reducible repeat (first|refine bN_ ?_ _|refine bD_ ?_|refine bA_ ?_ _));exact BK262.out) hb);have n1_:=A0_.mk (blk_below (g:=gb263) (o:=.cells #[.int .i64 a1_0,.slice A1_1 l1_1.length c1_1,.slice A1_2 l1_2.length c1_2,.slice A1_3 l1_3.length c1_3,.int .i64 a1_4] 28 (0,0)) (by (with_reducible repeat (first|refine bN_ ?_ _|refine bD_ ?_|refine bA_ ?_ _));exact BK263.out) hb);have n2_:=A0_.mk (below_step (by repeat (first|(with_reducible first|exact HB.out|apply eA_|apply eN_|apply eD_|refine eS_ ?_ GE262.out|refine eS_ ?_ GE263.out)|exact HB.out)) hb);clear BK262;clear BK263;clear HB;have BK262:=n0_;have BK263:=n1_;have HB:=n2_;clear n0_ n1_ n2_;(try clear hb);(try clear hb2);(try clear hk);(try clear hi))))
    go_meet
    case rel => exact ⟨_,(!t264),(by first|rfl|(simp;done)|(simp [*];done)),H',⟨by first|omega|exact Nat.le_refl _⟩,⟨by (with_reducible repeat (first|refine bN_ ?_ _|refine bD_ ?_|refine bA_ ?_ _));exact BK262.out⟩,⟨by (with_reducible repeat (first|refine bN_ ?_ _|refine bD_ ?_|refine bA_ ?_ _));exact BK263.out⟩,⟨by repeat (first|(with_reducible first|exact HB.out|apply eA_|apply eN_|apply eD_|refine eS_ ?_ GE262.out|refine eS_ ?_ GE263.out)|exact HB.out)⟩⟩
   ·rw [if_neg c7] at H
    have c7b0 : ((l0_1.length : Int) == (l1_1.length : Int)) = false:=beq_eq_false_iff_ne.mpr c7
    have c7b1 : ((l0_1.length : Int) != (l1_1.length : Int)) = true:=bne_iff_ne.mpr c7
    have c7b2 : (l0_1.length == l1_1.length) = false:=by first|simpa using c7|(simp at c7 ⊢;omega)
    have H':=A0_.mk H
    clear H
    have hnb13:=NB262_263.out
    have hnc13:=NB263_262.out
    have hcz14_0 : w5.cell? ⟨gb262,0,none⟩ = some (.int .i64 a0_0):=(bC_ BK262.out 0).trans rfl
    have hcz14_1 : w5.cell? ⟨gb262,1,none⟩ = some (.slice A0_1 l0_1.length c0_1):=(bC_ BK262.out 1).trans rfl
    have hcz14_2 : w5.cell? ⟨gb262,2,none⟩ = some (.slice A0_2 l0_2.length c0_2):=(bC_ BK262.out 2).trans rfl
    have hcz14_3 : w5.cell? ⟨gb262,3,none⟩ = some (.slice A0_3 l0_3.length c0_3):=(bC_ BK262.out 3).trans rfl
    have hcz14_4 : w5.cell? ⟨gb262,4,none⟩ = some (.int .i64 a0_4):=(bC_ BK262.out 4).trans rfl
    have hfz14_0:=bF_ BK262.out 0
    have hfz14_1:=bF_ BK262.out 1
    have hfz14_2:=bF_ BK262.out 2
    have hfz14_3:=bF_ BK262.out 3
    have hfz14_4:=bF_ BK262.out 4
    have hcz15_0 : w5.cell? ⟨gb263,0,none⟩ = some (.int .i64 a1_0):=(bC_ BK263.out 0).trans rfl
    have hcz15_1 : w5.cell? ⟨gb263,1,none⟩ = some (.slice A1_1 l1_1.length c1_1):=(bC_ BK263.out 1).trans rfl
    have hcz15_2 : w5.cell? ⟨gb263,2,none⟩ = some (.slice A1_2 l1_2.length c1_2):=(bC_ BK263.out 2).trans rfl
    have hcz15_3 : w5.cell? ⟨gb263,3,none⟩ = some (.slice A1_3 l1_3.length c1_3):=(bC_ BK263.out 3).trans rfl
    have hcz15_4 : w5.cell? ⟨gb263,4,none⟩ = some (.int .i64 a1_4):=(bC_ BK263.out 4).trans rfl
    have hfz15_0:=bF_ BK263.out 0
    have hfz15_1:=bF_ BK263.out 1
    have hfz15_2:=bF_ BK263.out 2
    have hfz15_3:=bF_ BK263.out 3
    have hfz15_4:=bF_ BK263.out 4
    go_wp2
    repeat (go_quiet (fail);try go_wp2)
    go_meet
    case rel => exact ⟨_,(true),(by first|rfl|(simp;done)|(simp [*];done)),H',⟨by first|omega|exact Nat.le_refl _⟩,⟨by (with_reducible repeat (first|refine bN_ ?_ _|refine bD_ ?_|refine bA_ ?_ _));exact BK262.out⟩,⟨by (with_reducible repeat (first|refine bN_ ?_ _|refine bD_ ?_|refine bA_ ?_ _));exact BK263.out⟩,⟨by repeat (first|(with_reducible first|exact HB.out|apply eA_|apply eN_|apply eD_|refine eS_ ?_ GE262.out|refine eS_ ?_ GE263.out)|exact HB.out)⟩⟩
  ·rw [if_neg c6] at H
   have c6b0 : (a0_0 == a1_0) = false:=beq_eq_false_iff_ne.mpr c6
   have c6b1 : (a0_0 != a1_0) = true:=bne_iff_ne.mpr c6
   (first|rw [c6b0]|(simp only [i64_w,i32_w];rw [c6b0])|skip)
   have H':=A0_.mk H
   clear H
   have hnb16:=NB262_263.out
   have hnc16:=NB263_262.out
   have hcz17_0 : w5.cell? ⟨gb262,0,none⟩ = some (.int .i64 a0_0):=(bC_ BK262.out 0).trans rfl
   have hcz17_1 : w5.cell? ⟨gb262,1,none⟩ = some (.slice A0_1 l0_1.length c0_1):=(bC_ BK262.out 1).trans rfl
   have hcz17_2 : w5.cell? ⟨gb262,2,none⟩ = some (.slice A0_2 l0_2.length c0_2):=(bC_ BK262.out 2).trans rfl
   have hcz17_3 : w5.cell? ⟨gb262,3,none⟩ = some (.slice A0_3 l0_3.length c0_3):=(bC_ BK262.out 3).trans rfl
   have hcz17_4 : w5.cell? ⟨gb262,4,none⟩ = some (.int .i64 a0_4):=(bC_ BK262.out 4).trans rfl
   have hfz17_0:=bF_ BK262.out 0
   have hfz17_1:=bF_ BK262.out 1
   have hfz17_2:=bF_ BK262.out 2
   have hfz17_3:=bF_ BK262.out 3
   have hfz17_4:=bF_ BK262.out 4
   have hcz18_0 : w5.cell? ⟨gb263,0,none⟩ = some (.int .i64 a1_0):=(bC_ BK263.out 0).trans rfl
   have hcz18_1 : w5.cell? ⟨gb263,1,none⟩ = some (.slice A1_1 l1_1.length c1_1):=(bC_ BK263.out 1).trans rfl
   have hcz18_2 : w5.cell? ⟨gb263,2,none⟩ = some (.slice A1_2 l1_2.length c1_2):=(bC_ BK263.out 2).trans rfl
   have hcz18_3 : w5.cell? ⟨gb263,3,none⟩ = some (.slice A1_3 l1_3.length c1_3):=(bC_ BK263.out 3).trans rfl
   have hcz18_4 : w5.cell? ⟨gb263,4,none⟩ = some (.int .i64 a1_4):=(bC_ BK263.out 4).trans rfl
   have hfz18_0:=bF_ BK263.out 0
   have hfz18_1:=bF_ BK263.out 1
   have hfz18_2:=bF_ BK263.out 2
   have hfz18_3:=bF_ BK263.out 3
   have hfz18_4:=bF_ BK263.out 4
   go_wp2
   repeat (go_quiet (fail);try go_wp2)
   go_meet
   case rel => exact ⟨_,(true),(by first|rfl|(simp;done)|(simp [*];done)),H',⟨by first|omega|exact Nat.le_refl _⟩,⟨by (with_reducible repeat (first|refine bN_ ?_ _|refine bD_ ?_|refine bA_ ?_ _));exact BK262.out⟩,⟨by (with_reducible repeat (first|refine bN_ ?_ _|refine bD_ ?_|refine bA_ ?_ _));exact BK263.out⟩,⟨by repeat (first|(with_reducible first|exact HB.out|apply eA_|apply eN_|apply eD_|refine eS_ ?_ GE262.out|refine eS_ ?_ GE263.out)|exact HB.out)⟩⟩
 case rest =>
  clear HC3
  try clear c1
  try clear p2
  try clear c6
  try clear c6b0
  try clear c6b1
  try clear c7
  try clear c7b0
  try clear c7b1
  try clear c7b2
  try clear c9
  try clear c13
  try clear c16
  try clear c17
  try clear hcz10_0
  try clear hcz10_1
  try clear hcz10_2
  try clear hcz10_3
  try clear hcz10_4
  try clear hcz11_0
  try clear hcz11_1
  try clear hcz11_2
  try clear hcz11_3
  try clear hcz11_4
  try clear hcz14_0
  try clear hcz14_1
  try clear hcz14_2
  try clear hcz14_3
  try clear hcz14_4
  try clear hcz15_0
  try clear hcz15_1
  try clear hcz15_2
  try clear hcz15_3
  try clear hcz15_4
  try clear hcz17_0
  try clear hcz17_1
  try clear hcz17_2
  try clear hcz17_3
  try clear hcz17_4
  try clear hcz18_0
  try clear hcz18_1
  try clear hcz18_2
  try clear hcz18_3
  try clear hcz18_4
  try clear hfz10_0
  try clear hfz10_1
  try clear hfz10_2
  try clear hfz10_3
  try clear hfz10_4
  try clear hfz11_0
  try clear hfz11_1
  try clear hfz11_2
  try clear hfz11_3
  try clear hfz11_4
  try clear hfz14_0
  try clear hfz14_1
  try clear hfz14_2
  try clear hfz14_3
  try clear hfz14_4
  try clear hfz15_0
  try clear hfz15_1
  try clear hfz15_2
  try clear hfz15_3
  try clear hfz15_4
  try clear hfz17_0
  try clear hfz17_1
  try clear hfz17_2
  try clear hfz17_3
  try clear hfz17_4
  try clear hfz18_0
  try clear hfz18_1
  try clear hfz18_2
  try clear hfz18_3
  try clear hfz18_4
  obtain ⟨kq,x27_2,rfl,HA,HJ2,BK262,BK263,HB⟩:=hcut
  cases kq with
  |zero => exact absurd HA.out (by simp [trestlelaw12_same.j0])
  |succ kj2 =>
   have H:=HA.out
   clear HA
   simp only [trestlelaw12_same.j0] at H
   by_cases c19 : x27_2 = true
   ·subst c19
    have H1 : (none) = some r:=by rw [if_pos rfl] at H;exact H
    clear H
    have H:=H1
    clear H1
    exact absurd H (by simp)
   ·replace c19:=Bool.eq_false_iff.mpr c19
    subst c19
    have H1 : (trestlelaw12_same.l0 kj2 0 a0_0 l0_1 l0_2 l0_3 a0_4 a1_0 l1_1 l1_2 l1_3 a1_4) = some r:=by rw [if_neg (show ¬ (false = true) by decide)] at H;exact H
    clear H
    have H:=H1
    clear H1
    have H':=A0_.mk H
    clear H
    go_wp2
    repeat (go_quiet (fail);try go_wp2)
    (try simp only [Act.put,List.setIfInBounds_toArray,List.set_cons_zero,List.set_cons_succ])
    go_loopg [5] kj2 (fun kq v5 w' => ∃ (x5_2 : Int),v5 = .int .i64 x5_2 ∧ A0_ (trestlelaw12_same.l0 kq x5_2 a0_0 l0_1 l0_2 l0_3 a0_4 a1_0 l1_1 l1_2 l1_3 a1_4 = some r) ∧ A0_ (kq ≤ kj2) ∧ A0_ (w'.heap[gb262]? = some (.cells #[.int .i64 a0_0,(.slice A0_1 l0_1.length c0_1),(.slice A0_2 l0_2.length c0_2),(.slice A0_3 l0_3.length c0_3),.int .i64 a0_4] 28 (0,0))) ∧ A0_ (w'.heap[gb263]? = some (.cells #[.int .i64 a1_0,(.slice A1_1 l1_1.length c1_1),(.slice A1_2 l1_2.length c1_2),(.slice A1_3 l1_3.length c1_3),.int .i64 a1_4] 28 (0,0))) ∧ A0_ (Below w.heap.size w w'))
    case atStart => exact ⟨(0),(by first|rfl|(simp;done)|(simp [*];done)),H',⟨Nat.le_refl _⟩,⟨by (with_reducible repeat (first|refine bN_ ?_ _|refine bD_ ?_|refine bA_ ?_ _));exact BK262.out⟩,⟨by (with_reducible repeat (first|refine bN_ ?_ _|refine bD_ ?_|refine bA_ ?_ _));exact BK263.out⟩,⟨by repeat (first|(with_reducible first|exact HB.out|apply eA_|apply eN_|apply eD_|refine eS_ ?_ GE262.out|refine eS_ ?_ GE263.out)|exact HB.out)⟩⟩
    case round =>
     clear H'
     try clear c1
     try clear p2
     try clear c6
     try clear c6b0
     try clear c6b1
     try clear c7
     try clear c7b0
     try clear c7b1
     try clear c7b2
     try clear c9
     try clear c13
     try clear c16
     try clear c17
     try clear c19
     try clear hcz10_0
     try clear hcz10_1
     try clear hcz10_2
     try clear hcz10_3
     try clear hcz10_4
     try clear hcz11_0
     try clear hcz11_1
     try clear hcz11_2
     try clear hcz11_3
     try clear hcz11_4
     try clear hcz14_0
     try clear hcz14_1
     try clear hcz14_2
     try clear hcz14_3
     try clear hcz14_4
     try clear hcz15_0
     try clear hcz15_1
     try clear hcz15_2
     try clear hcz15_3
     try clear hcz15_4
     try clear hcz17_0
     try clear hcz17_1
     try clear hcz17_2
     try clear hcz17_3
     try clear hcz17_4
     try clear hcz18_0
     try clear hcz18_1
     try clear hcz18_2
     try clear hcz18_3
     try clear hcz18_4
     try clear hfz10_0
     try clear hfz10_1
     try clear hfz10_2
     try clear hfz10_3
     try clear hfz10_4
     try clear hfz11_0
     try clear hfz11_1
     try clear hfz11_2
     try clear hfz11_3
     try clear hfz11_4
     try clear hfz14_0
     try clear hfz14_1
     try clear hfz14_2
     try clear hfz14_3
     try clear hfz14_4
     try clear hfz15_0
     try clear hfz15_1
     try clear hfz15_2
     try clear hfz15_3
     try clear hfz15_4
     try clear hfz17_0
     try clear hfz17_1
     try clear hfz17_2
     try clear hfz17_3
     try clear hfz17_4
     try clear hfz18_0
     try clear hfz18_1
     try clear hfz18_2
     try clear hfz18_3
     try clear hfz18_4
     try clear p2
     obtain ⟨x5_2,rfl,HA,HK2,BK262,BK263,HB⟩:=hrel
     cases gk with
     |zero => exact absurd HA.out (by simp [trestlelaw12_same.l0])
     |succ k2 =>
      have H:=HA.out
      clear HA
      simp only [trestlelaw12_same.l0] at H
      by_cases c20 : x5_2 < (l0_1.length : Int)
      ·rw [if_pos c20] at H
       have c20b0 : decide (x5_2 < (l0_1.length : Int)) = true:=decide_eq_true c20
       clear c20
       by_cases c21 : 0 ≤ x5_2
       ·rw [if_pos c21] at H
        have c21b0 : decide (0 ≤ x5_2) = true:=decide_eq_true c21
        clear c21
        by_cases c22 : x5_2 < (l1_1.length : Int)
        ·rw [if_pos c22] at H
         have c22b0 : decide (x5_2 < (l1_1.length : Int)) = true:=decide_eq_true c22
         clear c22
         by_cases c23 : (!(((rd_T83 l0_1 x5_2).f0) == ((rd_T83 l1_1 x5_2).f0)) || (!(((rd_T83 l0_1 x5_2).f1) == ((rd_T83 l1_1 x5_2).f1)))) = true
         ·rw [if_pos c23] at H
          exact absurd H (by simp)
         ·rw [if_neg c23] at H
          have c23b0 : (!(((rd_T83 l0_1 x5_2).f0) == ((rd_T83 l1_1 x5_2).f0)) || (!(((rd_T83 l0_1 x5_2).f1) == ((rd_T83 l1_1 x5_2).f1)))) = false:=by simpa using c23
          clear c23
          have H':=A0_.mk H
          clear H
          have hnb24:=NB262_263.out
          have hnc24:=NB263_262.out
          have hcz25_0 : wr.cell? ⟨gb262,0,none⟩ = some (.int .i64 a0_0):=(bC_ BK262.out 0).trans rfl
          have hcz25_1 : wr.cell? ⟨gb262,1,none⟩ = some (.slice A0_1 l0_1.length c0_1):=(bC_ BK262.out 1).trans rfl
          have hcz25_2 : wr.cell? ⟨gb262,2,none⟩ = some (.slice A0_2 l0_2.length c0_2):=(bC_ BK262.out 2).trans rfl
          have hcz25_3 : wr.cell? ⟨gb262,3,none⟩ = some (.slice A0_3 l0_3.length c0_3):=(bC_ BK262.out 3).trans rfl
          have hcz25_4 : wr.cell? ⟨gb262,4,none⟩ = some (.int .i64 a0_4):=(bC_ BK262.out 4).trans rfl
          have hfz25_0:=bF_ BK262.out 0
          have hfz25_1:=bF_ BK262.out 1
          have hfz25_2:=bF_ BK262.out 2
          have hfz25_3:=bF_ BK262.out 3
          have hfz25_4:=bF_ BK262.out 4
          have p265 : 0 ≤ (x5_2 : Int):=of_decide_eq_true (by first|(with_reducible assumption)|assumption)
          have q265 : x5_2 < (l0_1.length : Int):=of_decide_eq_true (by first|(with_reducible assumption)|assumption)
          obtain ⟨ad265,e265,hx265_0,hx265_1⟩:=at_T83 HR0_1.out x5_2 p265 q265
          cases e265
          replace hx265_0:=(HB.out.cell (World.block_lt_of_cell? w _ hx265_0)).trans hx265_0
          replace hx265_1:=(HB.out.cell (World.block_lt_of_cell? w _ hx265_1)).trans hx265_1
          replace p265:=eq_true p265
          replace q265:=eq_true q265
          have hcz26_0 : wr.cell? ⟨gb263,0,none⟩ = some (.int .i64 a1_0):=(bC_ BK263.out 0).trans rfl
          have hcz26_1 : wr.cell? ⟨gb263,1,none⟩ = some (.slice A1_1 l1_1.length c1_1):=(bC_ BK263.out 1).trans rfl
          have hcz26_2 : wr.cell? ⟨gb263,2,none⟩ = some (.slice A1_2 l1_2.length c1_2):=(bC_ BK263.out 2).trans rfl
          have hcz26_3 : wr.cell? ⟨gb263,3,none⟩ = some (.slice A1_3 l1_3.length c1_3):=(bC_ BK263.out 3).trans rfl
          have hcz26_4 : wr.cell? ⟨gb263,4,none⟩ = some (.int .i64 a1_4):=(bC_ BK263.out 4).trans rfl
          have hfz26_0:=bF_ BK263.out 0
          have hfz26_1:=bF_ BK263.out 1
          have hfz26_2:=bF_ BK263.out 2
          have hfz26_3:=bF_ BK263.out 3
          have hfz26_4:=bF_ BK263.out 4
          have p266 : 0 ≤ (x5_2 : Int):=of_decide_eq_true (by first|(with_reducible assumption)|assumption)
          have q266 : x5_2 < (l1_1.length : Int):=of_decide_eq_true (by first|(with_reducible assumption)|assumption)
          obtain ⟨ad266,e266,hx266_0,hx266_1⟩:=at_T83 HR1_1.out x5_2 p266 q266
          cases e266
          replace hx266_0:=(HB.out.cell (World.block_lt_of_cell? w _ hx266_0)).trans hx266_0
          replace hx266_1:=(HB.out.cell (World.block_lt_of_cell? w _ hx266_1)).trans hx266_1
          replace p266:=eq_true p266
          replace q266:=eq_true q266
          go_wp2
          repeat (go_quiet (fail);try go_wp2)
          go_roundg k2
          case measure => have:=HJ2.out;have:=HK2.out;omega
          case rel => exact ⟨(wrap64 (x5_2 + 1)),(by first|rfl|(simp;done)|(simp [*];done)),H',⟨by have:=HJ2.out;have:=HK2.out;omega⟩,⟨by (with_reducible repeat (first|refine bN_ ?_ _|refine bD_ ?_|refine bA_ ?_ _));exact BK262.out⟩,⟨by (with_reducible repeat (first|refine bN_ ?_ _|refine bD_ ?_|refine bA_ ?_ _));exact BK263.out⟩,⟨by repeat (first|(with_reducible first|exact HB.out|apply eA_|apply eN_|apply eD_|refine eS_ ?_ GE262.out|refine eS_ ?_ GE263.out)|exact HB.out)⟩⟩
        ·rw [if_neg c22] at H
         exact absurd H (by simp)
       ·rw [if_neg c21] at H
        exact absurd H (by simp)
      ·rw [if_neg c20] at H
       have c20b0 : decide (x5_2 < (l0_1.length : Int)) = false:=decide_eq_false c20
       clear c20
       obtain rfl:=Option.some.inj H
       have hnb27:=NB262_263.out
       have hnc27:=NB263_262.out
       have hcz28_0 : wr.cell? ⟨gb262,0,none⟩ = some (.int .i64 a0_0):=(bC_ BK262.out 0).trans rfl
       have hcz28_1 : wr.cell? ⟨gb262,1,none⟩ = some (.slice A0_1 l0_1.length c0_1):=(bC_ BK262.out 1).trans rfl
       have hcz28_2 : wr.cell? ⟨gb262,2,none⟩ = some (.slice A0_2 l0_2.length c0_2):=(bC_ BK262.out 2).trans rfl
       have hcz28_3 : wr.cell? ⟨gb262,3,none⟩ = some (.slice A0_3 l0_3.length c0_3):=(bC_ BK262.out 3).trans rfl
       have hcz28_4 : wr.cell? ⟨gb262,4,none⟩ = some (.int .i64 a0_4):=(bC_ BK262.out 4).trans rfl
       have hfz28_0:=bF_ BK262.out 0
       have hfz28_1:=bF_ BK262.out 1
       have hfz28_2:=bF_ BK262.out 2
       have hfz28_3:=bF_ BK262.out 3
       have hfz28_4:=bF_ BK262.out 4
       go_wp2
       repeat (go_quiet (fail);try go_wp2)
       go_ret
       exact ⟨by first|rfl|(simp [errW_none,errW_some] <;> rfl)|(simp [*,errW_none,errW_some] <;> rfl),by repeat (first|(with_reducible first|exact HB.out|apply eA_|apply eN_|apply eD_|refine eS_ ?_ GE262.out|refine eS_ ?_ GE263.out)|exact HB.out)⟩
end Go.Proofs.YtojepjkpnponoaaDoor.Stim

