import Derived.Test.YtojepjkpnponoaaDoorOAReadW
namespace Go.Proofs.YtojepjkpnponoaaDoor.Asc
open Go Go.RowKit Go.Proofs.YtojepjkpnponoaaDoorW.PrintWords Go.Proofs.YtojepjkpnponoaaDoorW.PrintLast Go.Proofs.YtojepjkpnponoaaDoorW.PrintMore
set_option linter.unusedVariables false
set_option linter.unusedSimpArgs false
def ex1 : ByteArray:=⟨#[97,97,103,32,49,32,48,32,49,32,48,32,48,32,49,10,50,32,51,10,50,10]⟩
def ex2 : ByteArray:=⟨#[97,97,103,32,48,32,48,32,48,32,48,10]⟩
theorem ex1_read : readF ex1 = (⟨1,[],[⟨2,3,0⟩],[],[2],[],[],[],[],[],[]⟩,0,0):=by kernel_rfl
theorem ex2_read : readF ex2 = (x0S,0,40):=by kernel_rfl
theorem own_form {α : Type} {d : Kd α} {e : Nat} {W : World} {base : Nat} {ok : Nat → Prop} {v : Value} {xs : List α} (h : d.R e W base ok v xs) (h0 : 0 < xs.length) : ∃ g c,v = .slice (some ⟨g,0,none⟩) xs.length c:=by
  obtain ⟨inner,ho⟩:=Kd.R_own h
  rcases ho.2 with ⟨_,h1⟩|⟨g,cap,cur,rfl,_⟩
  · omega
  · exact ⟨g,cap,rfl⟩
theorem latch_cells {W : World} {base : Nat} {ok : Nat → Prop} {A : Option Addr} {n c : Nat} {x : S108} (h : k108.R 108 W base ok (.slice A n c) [x]) : ∃ g,A = some ⟨g,0,none⟩ ∧ W.cell? ⟨g,0,none⟩ = some (.int .i64 x.f0) ∧ W.cell? ⟨g,1,none⟩ = some (.int .i64 x.f1) ∧ W.cell? ⟨g,2,none⟩ = some (.int .i64 x.f2):=by
  obtain ⟨g,c',he⟩:=own_form h (Nat.lt_succ_self 0)
  injection he with he _ _
  subst he
  obtain ⟨ad,ea,h0,h1,h2⟩:=C_latch_get (Kd.R_reads' h).2.2 0 (Nat.lt_succ_self 0)
  injection ea with ea
  subst ea
  simp only [Nat.zero_mul,add_plain,Nat.zero_add] at h0 h1 h2
  exact ⟨g,rfl,h0,h1,h2⟩
theorem int_cell {W : World} {base : Nat} {ok : Nat → Prop} {A : Option Addr} {n c : Nat} {x : Int} (h : (Kd.int .i64).R 3 W base ok (.slice A n c) [x]) : ∃ g,A = some ⟨g,0,none⟩ ∧ W.cell? ⟨g,0,none⟩ = some (.int .i64 x):=by
  obtain ⟨g,c',he,_,hc⟩:=row_some h (Nat.lt_succ_self 0)
  injection he with he _ _
  exact ⟨g,he,hc 0 (Nat.lt_succ_self 0)⟩
set_option maxHeartbeats 4000000 in
set_option maxRecDepth 100000 in
theorem works_calls {w : World} (hG : GV w) : Calls Tryd.prog 25 #[] w fun e w' => e = .returned (.bool true) ∧ Below w.heap.size w w':=by
  have hR1:=read_calls (s:=ex1) hG (by decide)
  rw [ex1_read] at hR1
  unfold ReadEnd ex1 at hR1
  dsimp only at hR1
  have HR1:=Aside0.mk hR1
  have HG:=Aside0.mk hG
  clear hR1 hG
  go_enter Tryd.func25,Tryd.ntmps25
  go_upto_region 2 with (first|(go_at_call 29;refine HR1.out.mono ?_;rintro e w1 ⟨v,rfl,hrows,hb⟩;obtain ⟨v1,v2,v3,v4,v5,v6,v7,v8,v9,v10⟩:=v;obtain ⟨A1_,n1_,rfl⟩:=Kd.R_slice (CRows.r1 hrows);obtain ⟨A2_,n2_,rfl⟩:=Kd.R_slice (CRows.r2 hrows);obtain ⟨A3_,n3_,rfl⟩:=Kd.R_slice (CRows.r3 hrows);obtain ⟨A4_,n4_,rfl⟩:=Kd.R_slice (CRows.r4 hrows);obtain ⟨A5_,n5_,rfl⟩:=Kd.R_slice (CRows.r5 hrows);obtain ⟨A6_,n6_,rfl⟩:=Kd.R_slice (CRows.r6 hrows);obtain ⟨A7_,n7_,rfl⟩:=Kd.R_slice (CRows.r7 hrows);obtain ⟨A8_,n8_,rfl⟩:=Kd.R_slice (CRows.r8 hrows);obtain ⟨A9_,n9_,rfl⟩:=Kd.R_slice (CRows.r9 hrows);obtain ⟨A10_,n10_,rfl⟩:=Kd.R_slice (CRows.r10 hrows);dsimp only [cellsV];have HROW:=Aside0.mk hrows;have HB1:=Aside0.mk hb;clear hrows hb))
  have hb1:=blk_new w1 (.cells #[.int .i64 1,.slice A1_ 0 n1_,.slice A2_ 1 n2_,.slice A3_ 0 n3_,.slice A4_ 1 n4_,.slice A5_ 0 n5_,.slice A6_ 0 n6_,.slice A7_ 0 n7_,.slice A8_ 0 n8_,.slice A9_ 0 n9_,.slice A10_ 0 n10_] 65)
  have hb2:=blk_new (w1.alloc (.cells #[.int .i64 1,.slice A1_ 0 n1_,.slice A2_ 1 n2_,.slice A3_ 0 n3_,.slice A4_ 1 n4_,.slice A5_ 0 n5_,.slice A6_ 0 n6_,.slice A7_ 0 n7_,.slice A8_ 0 n8_,.slice A9_ 0 n9_,.slice A10_ 0 n10_] 65)) (.cells #[.int .i64 0,.int .i64 0] 40)
  simp only [World.size_alloc] at hb2
  have hb1:=blk_alloc hb1 (.cells #[.int .i64 0,.int .i64 0] 40)
  have hbe : Below w1.heap.size w1 ((w1.alloc (.cells #[.int .i64 1,.slice A1_ 0 n1_,.slice A2_ 1 n2_,.slice A3_ 0 n3_,.slice A4_ 1 n4_,.slice A5_ 0 n5_,.slice A6_ 0 n6_,.slice A7_ 0 n7_,.slice A8_ 0 n8_,.slice A9_ 0 n9_,.slice A10_ 0 n10_] 65)).alloc (.cells #[.int .i64 0,.int .i64 0] 40)):=below_alloc (below_alloc (Below.refl _ _) _) _
  obtain ⟨g2,e2,y20,y21,y22⟩:=latch_cells HROW.out.r2
  obtain ⟨g4,e4,y40⟩:=int_cell HROW.out.r4
  subst e2
  subst e4
  replace y20:=pw_cell_below hbe y20
  replace y21:=pw_cell_below hbe y21
  replace y22:=pw_cell_below hbe y22
  replace y40:=pw_cell_below hbe y40
  have hB2:=HB1.out.trans (hbe.mono HB1.out.size)
  clear hbe HROW
  generalize hw2 : (w1.alloc (.cells #[.int .i64 1,.slice A1_ 0 n1_,.slice (some ⟨g2,0,none⟩) 1 n2_,.slice A3_ 0 n3_,.slice (some ⟨g4,0,none⟩) 1 n4_,.slice A5_ 0 n5_,.slice A6_ 0 n6_,.slice A7_ 0 n7_,.slice A8_ 0 n8_,.slice A9_ 0 n9_,.slice A10_ 0 n10_] 65)).alloc (.cells #[.int .i64 0,.int .i64 0] 40) = w2 at hb1 hb2 y20 y21 y22 y40 hB2 ⊢
  clear hw2 HB1
  have hR2:=read_calls (s:=ex2) (GV_below HG.out hB2) (by decide)
  rw [ex2_read] at hR2
  unfold ReadEnd ex2 at hR2
  dsimp only [x0S] at hR2
  have HR2:=Aside0.mk hR2
  have HB2:=Aside0.mk hB2
  generalize w1.heap.size = b1 at hb1 hb2 ⊢
  have K1:=Aside0.mk hb1
  have K2:=Aside0.mk hb2
  have Y0:=Aside0.mk y20
  have Y1:=Aside0.mk y21
  have Y2:=Aside0.mk y22
  have Y4:=Aside0.mk y40
  clear hR2 hB2 hb1 hb2 y20 y21 y22 y40
  go_upto_region 3 with (first|(go_at_call 29;refine HR2.out.mono ?_;rintro e w3 ⟨v,rfl,hrows,hb⟩;obtain ⟨v1,v2,v3,v4,v5,v6,v7,v8,v9,v10⟩:=v;obtain ⟨A1q,n1q,rfl⟩:=Kd.R_slice (CRows.r1 hrows);obtain ⟨A2q,n2q,rfl⟩:=Kd.R_slice (CRows.r2 hrows);obtain ⟨A3q,n3q,rfl⟩:=Kd.R_slice (CRows.r3 hrows);obtain ⟨A4q,n4q,rfl⟩:=Kd.R_slice (CRows.r4 hrows);obtain ⟨A5q,n5q,rfl⟩:=Kd.R_slice (CRows.r5 hrows);obtain ⟨A6q,n6q,rfl⟩:=Kd.R_slice (CRows.r6 hrows);obtain ⟨A7q,n7q,rfl⟩:=Kd.R_slice (CRows.r7 hrows);obtain ⟨A8q,n8q,rfl⟩:=Kd.R_slice (CRows.r8 hrows);obtain ⟨A9q,n9q,rfl⟩:=Kd.R_slice (CRows.r9 hrows);obtain ⟨A10q,n10q,rfl⟩:=Kd.R_slice (CRows.r10 hrows);dsimp only [cellsV];have HBB:=Aside0.mk hb;clear hrows hb))
  have hf:=blk_new (w3.alloc (.cells #[.int .i64 0,.slice A1q 0 n1q,.slice A2q 0 n2q,.slice A3q 0 n3q,.slice A4q 0 n4q,.slice A5q 0 n5q,.slice A6q 0 n6q,.slice A7q 0 n7q,.slice A8q 0 n8q,.slice A9q 0 n9q,.slice A10q 0 n10q] 65)) (.cells #[.int .i64 0,.int .i64 40] 40)
  simp only [World.size_alloc] at hf
  have hbe : Below w3.heap.size w3 ((w3.alloc (.cells #[.int .i64 0,.slice A1q 0 n1q,.slice A2q 0 n2q,.slice A3q 0 n3q,.slice A4q 0 n4q,.slice A5q 0 n5q,.slice A6q 0 n6q,.slice A7q 0 n7q,.slice A8q 0 n8q,.slice A9q 0 n9q,.slice A10q 0 n10q] 65)).alloc (.cells #[.int .i64 0,.int .i64 40] 40)):=below_alloc (below_alloc (Below.refl _ _) _) _
  have hbb:=HBB.out.trans (hbe.mono HBB.out.size)
  have hB4:=HB2.out.trans (hbb.mono HB2.out.size)
  have x0:=pw_cell_below hbb (show w2.cell? ⟨b1,0,none⟩ = some (.int .i64 1) from blk_cell K1.out 0)
  have x2:=pw_cell_below hbb (show w2.cell? ⟨b1,2,none⟩ = some (.slice (some ⟨g2,0,none⟩) 1 n2_) from blk_cell K1.out 2)
  have x4:=pw_cell_below hbb (show w2.cell? ⟨b1,4,none⟩ = some (.slice (some ⟨g4,0,none⟩) 1 n4_) from blk_cell K1.out 4)
  have f0:=pw_cell_below hbb (show w2.cell? ⟨b1 + 1,0,none⟩ = some (.int .i64 0) from blk_cell K2.out 0)
  have f1:=pw_cell_below hbb (show w2.cell? ⟨b1 + 1,1,none⟩ = some (.int .i64 0) from blk_cell K2.out 1)
  have y20:=pw_cell_below hbb Y0.out
  have y21:=pw_cell_below hbb Y1.out
  have y22:=pw_cell_below hbb Y2.out
  have y40:=pw_cell_below hbb Y4.out
  have z0:=blk_cell hf 0
  have z1:=blk_cell hf 1
  have HB4:=Aside0.mk hB4
  clear hf hbe hbb hB4
  generalize (w3.alloc (.cells #[.int .i64 0,.slice A1q 0 n1q,.slice A2q 0 n2q,.slice A3q 0 n3q,.slice A4q 0 n4q,.slice A5q 0 n5q,.slice A6q 0 n6q,.slice A7q 0 n7q,.slice A8q 0 n8q,.slice A9q 0 n9q,.slice A10q 0 n10q] 65)).alloc (.cells #[.int .i64 0,.int .i64 40] 40) = w4 at x0 x2 x4 f0 f1 y20 y21 y22 y40 z0 z1 HB4 ⊢
  generalize w3.heap.size = b3 at z0 z1 ⊢
  go_wp2
  go_ret
  exact ⟨rfl,HB4.out⟩
end Go.Proofs.YtojepjkpnponoaaDoor.Asc

