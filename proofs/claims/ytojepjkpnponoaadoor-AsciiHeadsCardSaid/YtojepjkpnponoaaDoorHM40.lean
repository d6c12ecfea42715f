import Derived.Test.YtojepjkpnponoaaDoorHAReadW
import Derived.Test.YtojepjkpnponoaaDoorHM36
import Derived.Test.YtojepjkpnponoaaDoorHM18
import Derived.Test.YtojepjkpnponoaaDoorHAsc7
import Derived.Test.YtojepjkpnponoaaDoorHAsc8
section
namespace Go.Proofs.YtojepjkpnponoaaDoor.Asc
open Go Go.RowKit Go.Proofs.YtojepjkpnponoaaDoorW.PrintWords Go.Proofs.YtojepjkpnponoaaDoorW.PrintLast Go.Proofs.YtojepjkpnponoaaDoorW.PrintMore
set_option linter.unusedVariables false
set_option linter.unusedSimpArgs false
def ex1 : ByteArray:=⟨#[97,97,103,32,49,32,48,32,49,32,48,32,48,32,49,10,50,32,51,10,50,10]⟩
def ex2 : ByteArray:=⟨#[97,97,103,32,48,32,48,32,48,32,48,10]⟩
theorem ex1_read : readF ex1 = (⟨1,[],[⟨2,3,0⟩],[],[2],[],[],[],[],[],[]⟩,0,0):=by kernel_rfl
theorem ex2_read : readF ex2 = (x0S,0,40):=by kernel_rfl
theorem own_form {α : Type} {d : Kd α} {e : Nat} {W : World} {base : Nat} {ok : Nat → Prop} {v : Value} {xs : List α} (h : d.R e W base ok v xs) (h0 : 0 < xs.length) : ∃ g c,v = .slice (some ⟨g,0,none⟩) xs.length c:=by
  obtain ⟨inner,ho⟩:=Kd.R_own h
  rcases ho.2 with ⟨_,h1⟩|⟨g,cap,cur,rfl,_⟩
  · omega
  · exact ⟨g,cap,rfl⟩
theorem latch_cells {W : World} {base : Nat} {ok : Nat → Prop} {A : Option Addr} {n c : Nat} {x : S108} (h : k108.R 108 W base ok (.slice A n c) [x]) : ∃ g,A = some ⟨g,0,none⟩ ∧ W.cell? ⟨g,0,none⟩ = some (.int .i64 x.f0) ∧ W.cell? ⟨g,1,none⟩ = some (.int .i64 x.f1) ∧ W.cell? ⟨g,2,none⟩ = some (.int .i64 x.f2):=by
  obtain ⟨g,c',he⟩:=own_form h (Nat.lt_succ_self 0)
  injection he with he _ _
  subst he
  obtain ⟨ad,ea,h0,h1,h2⟩:=C_latch_get (Kd.R_reads' h).2.2 0 (Nat.lt_succ_self 0)
  injection ea with ea
  subst ea
  simp only [Nat.zero_mul,add_plain,Nat.zero_add] at h0 h1 h2
  exact ⟨g,rfl,h0,h1,h2⟩
theorem int_cell {W : World} {base : Nat} {ok : Nat → Prop} {A : Option Addr} {n c : Nat} {x : Int} (h : (Kd.int .i64).R 3 W base ok (.slice A n c) [x]) : ∃ g,A = some ⟨g,0,none⟩ ∧ W.cell? ⟨g,0,none⟩ = some (.int .i64 x):=by
  obtain ⟨g,c',he,_,hc⟩:=row_some h (Nat.lt_succ_self 0)
  injection he with he _ _
  exact ⟨g,he,hc 0 (Nat.lt_succ_self 0)⟩
set_option maxHeartbeats 4000000 in
set_option maxRecDepth 100000 in
theorem works_calls {w : World} (hG : GV w) : Calls Tryd.prog 25 #[] w fun e w' => e = .returned (.bool true) ∧ Below w.heap.size w w':=by
  have hR1:=read_calls (s:=ex1) hG (by decide)
  rw [ex1_read] at hR1
  unfold ReadEnd ex1 at hR1
  dsimp only at hR1
  have HR1:=Aside0.mk hR1
  have HG:=Aside0.mk hG
  clear hR1 hG
  go_enter Tryd.func25,Tryd.ntmps25
  go_upto_region 2 with (first|(go_at_call 29;refine HR1.out.mono ?_;rintro e w1 ⟨v,rfl,hrows,hb⟩;obtain ⟨v1,v2,v3,v4,v5,v6,v7,v8,v9,v10⟩:=v;obtain ⟨A1_,n1_,rfl⟩:=Kd.R_slice (CRows.r1 hrows);obtain ⟨A2_,n2_,rfl⟩:=Kd.R_slice (CRows.r2 hrows);obtain ⟨A3_,n3_,rfl⟩:=Kd.R_slice (CRows.r3 hrows);obtain ⟨A4_,n4_,rfl⟩:=Kd.R_slice (CRows.r4 hrows);obtain ⟨A5_,n5_,rfl⟩:=Kd.R_slice (CRows.r5 hrows);obtain ⟨A6_,n6_,rfl⟩:=Kd.R_slice (CRows.r6 hrows);obtain ⟨A7_,n7_,rfl⟩:=Kd.R_slice (CRows.r7 hrows);obtain ⟨A8_,n8_,rfl⟩:=Kd.R_slice (CRows.r8 hrows);obtain ⟨A9_,n9_,rfl⟩:=Kd.R_slice (CRows.r9 hrows);obtain ⟨A10_,n10_,rfl⟩:=Kd.R_slice (CRows.r10 hrows);dsimp only [cellsV];have HROW:=Aside0.mk hrows;have HB1:=Aside0.mk hb;clear hrows hb))
  have hb1:=blk_new w1 (.cells #[.int .i64 1,.slice A1_ 0 n1_,.slice A2_ 1 n2_,.slice A3_ 0 n3_,.slice A4_ 1 n4_,.slice A5_ 0 n5_,.slice A6_ 0 n6_,.slice A7_ 0 n7_,.slice A8_ 0 n8_,.slice A9_ 0 n9_,.slice A10_ 0 n10_] 65)
  have hb2:=blk_new (w1.alloc (.cells #[.int .i64 1,.slice A1_ 0 n1_,.slice A2_ 1 n2_,.slice A3_ 0 n3_,.slice A4_ 1 n4_,.slice A5_ 0 n5_,.slice A6_ 0 n6_,.slice A7_ 0 n7_,.slice A8_ 0 n8_,.slice A9_ 0 n9_,.slice A10_ 0 n10_] 65)) (.cells #[.int .i64 0,.int .i64 0] 40)
  simp only [World.size_alloc] at hb2
  have hb1:=blk_alloc hb1 (.cells #[.int .i64 0,.int .i64 0] 40)
  have hbe : Below w1.heap.size w1 ((w1.alloc (.cells #[.int .i64 1,.slice A1_ 0 n1_,.slice A2_ 1 n2_,.slice A3_ 0 n3_,.slice A4_ 1 n4_,.slice A5_ 0 n5_,.slice A6_ 0 n6_,.slice A7_ 0 n7_,.slice A8_ 0 n8_,.slice A9_ 0 n9_,.slice A10_ 0 n10_] 65)).alloc (.cells #[.int .i64 0,.int .i64 0] 40)):=below_alloc (below_alloc (Below.refl _ _) _) _
  obtain ⟨g2,e2,y20,y21,y22⟩:=latch_cells HROW.out.r2
  obtain ⟨g4,e4,y40⟩:=int_cell HROW.out.r4
  subst e2
  subst e4
  replace y20:=pw_cell_below hbe y20
  replace y21:=pw_cell_below hbe y21
  replace y22:=pw_cell_below hbe y22
  replace y40:=pw_cell_below hbe y40
  have hB2:=HB1.out.trans (hbe.mono HB1.out.size)
  clear hbe HROW
  generalize hw2 : (w1.alloc (.cells #[.int .i64 1,.slice A1_ 0 n1_,.slice (some ⟨g2,0,none⟩) 1 n2_,.slice A3_ 0 n3_,.slice (some ⟨g4,0,none⟩) 1 n4_,.slice A5_ 0 n5_,.slice A6_ 0 n6_,.slice A7_ 0 n7_,.slice A8_ 0 n8_,.slice A9_ 0 n9_,.slice A10_ 0 n10_] 65)).alloc (.cells #[.int .i64 0,.int .i64 0] 40) = w2 at hb1 hb2 y20 y21 y22 y40 hB2 ⊢
  clear hw2 HB1
  have hR2:=read_calls (s:=ex2) (GV_below HG.out hB2) (by decide)
  rw [ex2_read] at hR2
  unfold ReadEnd ex2 at hR2
  dsimp only [x0S] at hR2
  have HR2:=Aside0.mk hR2
  have HB2:=Aside0.mk hB2
  generalize w1.heap.size = b1 at hb1 hb2 ⊢
  have K1:=Aside0.mk hb1
  have K2:=Aside0.mk hb2
  have Y0:=Aside0.mk y20
  have Y1:=Aside0.mk y21
  have Y2:=Aside0.mk y22
  have Y4:=Aside0.mk y40
  clear hR2 hB2 hb1 hb2 y20 y21 y22 y40
  go_upto_region 3 with (first|(go_at_call 29;refine HR2.out.mono ?_;rintro e w3 ⟨v,rfl,hrows,hb⟩;obtain ⟨v1,v2,v3,v4,v5,v6,v7,v8,v9,v10⟩:=v;obtain ⟨A1q,n1q,rfl⟩:=Kd.R_slice (CRows.r1 hrows);obtain ⟨A2q,n2q,rfl⟩:=Kd.R_slice (CRows.r2 hrows);obtain ⟨A3q,n3q,rfl⟩:=Kd.R_slice (CRows.r3 hrows);obtain ⟨A4q,n4q,rfl⟩:=Kd.R_slice (CRows.r4 hrows);obtain ⟨A5q,n5q,rfl⟩:=Kd.R_slice (CRows.r5 hrows);obtain ⟨A6q,n6q,rfl⟩:=Kd.R_slice (CRows.r6 hrows);obtain ⟨A7q,n7q,rfl⟩:=Kd.R_slice (CRows.r7 hrows);obtain ⟨A8q,n8q,rfl⟩:=Kd.R_slice (CRows.r8 hrows);obtain ⟨A9q,n9q,rfl⟩:=Kd.R_slice (CRows.r9 hrows);obtain ⟨A10q,n10q,rfl⟩:=Kd.R_slice (CRows.r10 hrows);dsimp only [cellsV];have HBB:=Aside0.mk hb;clear hrows hb))
  have hf:=blk_new (w3.alloc (.cells #[.int .i64 0,.slice A1q 0 n1q,.slice A2q 0 n2q,.slice A3q 0 n3q,.slice A4q 0 n4q,.slice A5q 0 n5q,.slice A6q 0 n6q,.slice A7q 0 n7q,.slice A8q 0 n8q,.slice A9q 0 n9q,.slice A10q 0 n10q] 65)) (.cells #[.int .i64 0,.int .i64 40] 40)
  simp only [World.size_alloc] at hf
  have hbe : Below w3.heap.size w3 ((w3.alloc (.cells #[.int .i64 0,.slice A1q 0 n1q,.slice A2q 0 n2q,.slice A3q 0 n3q,.slice A4q 0 n4q,.slice A5q 0 n5q,.slice A6q 0 n6q,.slice A7q 0 n7q,.slice A8q 0 n8q,.slice A9q 0 n9q,.slice A10q 0 n10q] 65)).alloc (.cells #[.int .i64 0,.int .i64 40] 40)):=below_alloc (below_alloc (Below.refl _ _) _) _
  have hbb:=HBB.out.trans (hbe.mono HBB.out.size)
  have hB4:=HB2.out.trans (hbb.mono HB2.out.size)
  have x0:=pw_cell_below hbb (show w2.cell? ⟨b1,0,none⟩ = some (.int .i64 1) from blk_cell K1.out 0)
  have x2:=pw_cell_below hbb (show w2.cell? ⟨b1,2,none⟩ = some (.slice (some ⟨g2,0,none⟩) 1 n2_) from blk_cell K1.out 2)
  have x4:=pw_cell_below hbb (show w2.cell? ⟨b1,4,none⟩ = some (.slice (some ⟨g4,0,none⟩) 1 n4_) from blk_cell K1.out 4)
  have f0:=pw_cell_below hbb (show w2.cell? ⟨b1 + 1,0,none⟩ = some (.int .i64 0) from blk_cell K2.out 0)
  have f1:=pw_cell_below hbb (show w2.cell? ⟨b1 + 1,1,none⟩ = some (.int .i64 0) from blk_cell K2.out 1)
  have y20:=pw_cell_below hbb Y0.out
  have y21:=pw_cell_below hbb Y1.out
  have y22:=pw_cell_below hbb Y2.out
  have y40:=pw_cell_below hbb Y4.out
  have z0:=blk_cell hf 0
  have z1:=blk_cell hf 1
  have HB4:=Aside0.mk hB4
  clear hf hbe hbb hB4
  generalize (w3.alloc (.cells #[.int .i64 0,.slice A1q 0 n1q,.slice A2q 0 n2q,.slice A3q 0 n3q,.slice A4q 0 n4q,.slice A5q 0 n5q,.slice A6q 0 n6q,.slice A7q 0 n7q,.slice A8q 0 n8q,.slice A9q 0 n9q,.slice A10q 0 n10q] 65)).alloc (.cells #[.int .i64 0,.int .i64 40] 40) = w4 at x0 x2 x4 f0 f1 y20 y21 y22 y40 z0 z1 HB4 ⊢
  generalize w3.heap.size = b3 at z0 z1 ⊢
  go_wp2
  go_ret
  exact ⟨rfl,HB4.out⟩
end Go.Proofs.YtojepjkpnponoaaDoor.Asc
end
section
namespace Go.Proofs.YtojepjkpnponoaaDoor.Asc
open Go Go.RowKit Go.Proofs.YtojepjkpnponoaaDoorW.PrintWords Go.Proofs.YtojepjkpnponoaaDoorW.PrintLast Go.Proofs.YtojepjkpnponoaaDoorW.PrintMore
set_option linter.unusedVariables false
set_option linter.unusedSimpArgs false
attribute [local go_sem high] eqA40
theorem spoil_nil {w : World} (m : Int) : Calls Tryd.prog 24 #[.slice none 0 0,.int .i64 m] w fun e w' => e = .returned (.tuple #[]) ∧ w' = w:=by
  go_enter Tryd.func24,Tryd.ntmps24
  go_wp2
  go_loopg [4] 1 (fun kq v4 w' => v4 = .int .i64 0 ∧ w' = w)
  case atStart => exact ⟨rfl,rfl⟩
  case round =>
    obtain ⟨rfl,rfl⟩:=hrel
    go_wp2
    refine bodyPost_end (results_none rfl _ _ _) rfl ?_
    exact ⟨rfl,rfl⟩
theorem spoil_row {P : World → Prop} {w : World} {base : Nat} {ok : Nat → Prop} {v : Value} {xs : List Int} (hr : Kd.R (Kd.int .i64) 3 w base ok v xs) (hP0 : P w) (hP : ∀ W g j u,v.ownBlock = some g → P W → P (W.setCell ⟨g,j,none⟩ u)) (m : Int) :
    Calls Tryd.prog 24 #[v,.int .i64 m] w fun e w' => e = .returned (.tuple #[]) ∧ P w':=by
  have ho:=Kd.own_of_R hr
  rcases ho.2 with ⟨rfl,h1⟩|⟨g,cap,cur,rfl,hg,hc,hn,hm,hs,_⟩
  · exact (spoil_nil m).mono fun e w' ⟨h1,h2⟩ => ⟨h1,h2 ▸ hP0⟩
  · refine spoil_calls ⟨cur,?_,hc⟩ hn ?_ hP0 (fun W j u h => hP W g j u rfl h) m
    · rw [hs];omega
    · have : maxLen = 9223372036854775807:=rfl
      omega
theorem heads_calls {w : World} {s word : ByteArray} {ns : List Int} {en c : Int} {k : Nat} (hG : GV w) (hs : s.size ≤ 140737488355328) (hF : headF s = (word,ns,en,c)) (hR : trestleref04_Head.f k s = some (word,ns,en,0,c)) (hS : trestlebook_SameInts.f k ns ns = some true) :
    Calls Tryd.prog 6 #[.string s] w fun e w' => e = .returned (.bool true) ∧ Below w.heap.size w w':=by
  have hA : ascii_Head.f s = some (word,ns,en,0,c):=by unfold ascii_Head.f;rw [if_pos hs,hF]
  have HG:=Aside0.mk hG
  have HA:=Aside0.mk hA
  have HR:=Aside0.mk hR
  have HS:=Aside0.mk hS
  clear hG hs hF hA hR hS
  go_enter Tryd.func6,Tryd.ntmps6
  go_upto_region 2 with (go_at_call 21;refine (ascii_Head.calls s word ns en 0 c _ HG.out HA.out).mono ?_;rintro e w1 ⟨v1,rfl,hr,hb⟩;obtain ⟨A1,n1,rfl⟩:=Kd.R_slice hr;have HV1:=Aside0.mk hr;have HB1:=Aside0.mk hb;clear hr hb)
  have hf:=blk_new w1 (.cells #[.int .i64 0,.int .i64 c] 40)
  have hbe : Below w1.heap.size w1 (w1.alloc (.cells #[.int .i64 0,.int .i64 c] 40)):=below_alloc (Below.refl _ _) _
  have HB2:=Aside0.mk (HB1.out.trans (hbe.mono HB1.out.size))
  have HV2:=Aside0.mk (Kd.R_below HV1.out hbe)
  clear hbe HV1 HB1
  generalize w1.alloc (.cells #[.int .i64 0,.int .i64 c] 40) = w2 at hf HB2 HV2 ⊢
  generalize w1.heap.size = g1 at hf ⊢
  have HF2:=Aside0.mk hf
  clear hf
  go_upto_region 3 with (go_at_call 22;refine (trestleref04_Head.calls k s word ns en 0 c _ HR.out).mono ?_;rintro e w3 ⟨v2,rfl,hr,hb⟩;obtain ⟨A2,n2,rfl⟩:=Kd.R_slice hr;have HM3:=Aside0.mk hr;have HV3:=Aside0.mk (Kd.R_bound (Kd.R_elder HV2.out hr hb));have HB3:=Aside0.mk (HB2.out.trans (hb.mono HB2.out.size));have HF3:=Aside0.mk ((hb.block _ (blk_lt HF2.out)).trans HF2.out);have HLT:=Aside0.mk (Kd.R_lt HV2.out);have HBS:=Aside0.mk (Kd.R_base HV2.out);clear hr hb)
  clear HF2 HV2 HB2
  have hm3 : Kd.R (Kd.int .i64) 3 w3 w2.heap.size (fun k => some k ≠ (Value.slice A1 ns.length n1).ownBlock) (.slice A2 ns.length n2) ns :=
    Kd.R_mono (Kd.R_bound HM3.out) (fun k hk e => by have h1:=HLT.out k e.symm;have h2:=hk.2.1;omega)
  have hf:=blk_new w3 (.cells #[.int .i64 0,.int .i64 c] 40)
  have hfa:=blk_alloc HF3.out (.cells #[.int .i64 0,.int .i64 c] 40)
  have hbe : Below w3.heap.size w3 (w3.alloc (.cells #[.int .i64 0,.int .i64 c] 40)):=below_alloc (Below.refl _ _) _
  have HB4:=Aside0.mk (HB3.out.trans (hbe.mono HB3.out.size))
  have HV4:=Aside0.mk (Kd.R_below HV3.out hbe)
  have HM4:=Aside0.mk (Kd.R_below hm3 hbe)
  clear hbe hm3 HM3 HV3 HB3 HF3
  generalize w3.alloc (.cells #[.int .i64 0,.int .i64 c] 40) = w4 at hf hfa HB4 HV4 HM4 ⊢
  generalize w3.heap.size = g3 at hf HV4 ⊢
  have f0 : w4.cell? ⟨g1,0,none⟩ = some (.int .i64 0):=blk_cell hfa 0
  have f1 : w4.cell? ⟨g1,1,none⟩ = some (.int .i64 c):=blk_cell hfa 1
  have h0 : w4.cell? ⟨g3,0,none⟩ = some (.int .i64 0):=blk_cell hf 0
  have h1 : w4.cell? ⟨g3,1,none⟩ = some (.int .i64 c):=blk_cell hf 1
  clear hf hfa
  have HC1:=Aside0.mk (Kd.R_reads' HV4.out).2
  have HC2:=Aside0.mk (Kd.R_reads' HM4.out).2
  go_upto_region 5 with (go_at_call 23;refine (trestlebook_SameInts.calls k _ _ ns _ _ ns true _ HC1.out.2 HC1.out.1 HC2.out.2 HC2.out.1 HS.out).mono ?_;rintro e w' ⟨rfl,⟨nd,rfl⟩⟩)
  clear f0 f1 h0 h1 HC1 HC2
  have HB5:=Aside0.mk (pw_below_drewN HB4.out nd)
  have HV5:=Aside0.mk (Kd.R_drewN HV4.out nd)
  have HM5:=Aside0.mk (Kd.R_lower (Kd.R_drewN HM4.out nd) (Nat.zero_le _))
  clear HB4 HV4 HM4
  generalize w4.drewN nd = w5 at HB5 HV5 HM5 ⊢
  go_upto_region 6 with (go_at_call 24;(refine (spoil_row (P:=fun W => Below w.heap.size w W ∧ Kd.R (Kd.int .i64) 3 W 0 (fun k => some k ≠ (Value.slice A1 ns.length n1).ownBlock) (.slice A2 ns.length n2) ns) HV5.out ⟨HB5.out,HM5.out⟩ (fun W g j u hg h => ⟨below_set h.1 (HBS.out g hg),Kd.R_far h.2 (p:=⟨g,j,none⟩) (fun k hk e => hk (by rw [e];exact hg.symm)) u⟩) (-7)).mono ?_;rintro e w6 ⟨rfl,hb,hm⟩;have HB6:=Aside0.mk hb;have HM6:=Aside0.mk hm;clear hb hm))
  go_upto_region 7 with (go_at_call 21;refine (ascii_Head.calls s word ns en 0 c _ (GV_below HG.out HB6.out) HA.out).mono ?_;rintro e w7 ⟨v3,rfl,hr,hb⟩;obtain ⟨A3,n3,rfl⟩:=Kd.R_slice hr;have HC3:=Aside0.mk (Kd.R_reads' hr).2;have HC4:=Aside0.mk (Kd.R_reads' (Kd.R_below HM6.out hb)).2;have HB7:=Aside0.mk (HB6.out.trans (hb.mono HB6.out.size));clear hr hb)
  go_wp2_with (first|(go_at_call 23;refine (trestlebook_SameInts.calls k _ _ ns _ _ ns true _ HC3.out.2 HC3.out.1 HC4.out.2 HC4.out.1 HS.out).mono ?_;rintro e w' ⟨rfl,⟨nd,rfl⟩⟩;have HB8:=Aside0.mk (pw_below_drewN HB7.out nd))|(go_at_call 25;refine (works_calls (GV_below HG.out HB8.out)).mono ?_;rintro e w9 ⟨rfl,hb⟩;have HB9:=Aside0.mk (HB8.out.trans (hb.mono HB8.out.size))))
  go_ret
  exact ⟨by simp,HB9.out⟩
end Go.Proofs.YtojepjkpnponoaaDoor.Asc
end
section
namespace Go.Proofs.YtojepjkpnponoaaDoor.Asc
open Go Go.RowKit Go.Proofs.YtojepjkpnponoaaDoorW.PrintWords
set_option linter.unusedVariables false
theorem headsAll_calls {w : World} {s : ByteArray} (hG : GV w) (hs : s.size ≤ 140737488355328) :
    Calls Tryd.prog 6 #[.string s] w fun e w' => e = .returned (.bool true) ∧ Below w.heap.size w w':=by
  obtain ⟨k,h1,h2⟩:=heads_law s
  exact heads_calls hG hs rfl h1 h2
end Go.Proofs.YtojepjkpnponoaaDoor.Asc
end
