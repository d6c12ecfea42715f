import Derived.Test.YtojepjkpnponoaaDoorRM33
import Derived.Test.YtojepjkpnponoaaDoorRAsc1
section
namespace Go.Proofs.YtojepjkpnponoaaDoor.Asc
open Go Go.RowKit Go.Proofs.YtojepjkpnponoaaDoorW.PrintWords Go.Proofs.YtojepjkpnponoaaDoorW.PrintLast Go.Proofs.YtojepjkpnponoaaDoorW.PrintMore
set_option linter.unusedVariables false
set_option linter.unusedSimpArgs false
attribute [local go_sem high] eqA40
set_option maxHeartbeats 4000000 in
set_option maxRecDepth 100000 in
theorem right_bad {w : World} {s : ByteArray} {x : S65} {fa fc : Int} (hG : GV w) (hs : s.size ≤ 140737488355328) (hr : readF s = (x,fa,fc)) (h0 : fc ≠ 0) (h1 : 0 ≤ fa) (h2 : fa ≤ s.size) (h3 : x.f8 = []) (h4 : x.f0 = 0) :
    Calls Tryd.prog 8 #[.string s] w fun e w' => e = .returned (.bool true) ∧ Below w.heap.size w w':=by
  obtain ⟨y0,y1,y2,y3,y4,y5,y6,y7,y8,y9,y10⟩:=x
  dsimp only at h3 h4
  subst h3
  subst h4
  have HG:=Aside0.mk hG
  have HS:=Aside0.mk hs
  have HRF:=Aside0.mk hr
  have b1 : (fc == 0) = false:=by simpa using h0
  have b2 : decide (0 ≤ fa) = true:=decide_eq_true h1
  have b3 : decide (fa ≤ (s.size : Int)) = true:=decide_eq_true h2
  clear hG hs hr
  go_enter Tryd.func8,Tryd.ntmps8
  go_upto_region 4 with (first|(go_at_call 25;refine (works_calls HG.out).mono ?_;rintro e w1 ⟨rfl,hb1⟩;have HB1:=Aside0.mk hb1;clear hb1)|(go_at_call 29;refine (read_calls (GV_below HG.out HB1.out) HS.out).mono ?_;rw [HRF.out];rintro e w2 ⟨v,rfl,hrows,hb⟩;obtain ⟨v1,v2,v3,v4,v5,v6,v7,v8,v9,v10⟩:=v;obtain ⟨A1,n1,rfl⟩:=Kd.R_slice (CRows.r1 hrows);obtain ⟨A2,n2,rfl⟩:=Kd.R_slice (CRows.r2 hrows);obtain ⟨A3,n3,rfl⟩:=Kd.R_slice (CRows.r3 hrows);obtain ⟨A4,n4,rfl⟩:=Kd.R_slice (CRows.r4 hrows);obtain ⟨A5,n5,rfl⟩:=Kd.R_slice (CRows.r5 hrows);obtain ⟨A6,n6,rfl⟩:=Kd.R_slice (CRows.r6 hrows);obtain ⟨A7,n7,rfl⟩:=Kd.R_slice (CRows.r7 hrows);obtain ⟨A8,n8,rfl⟩:=Kd.R_slice (CRows.r8 hrows);obtain ⟨A9,n9,rfl⟩:=Kd.R_slice (CRows.r9 hrows);obtain ⟨A10,n10,rfl⟩:=Kd.R_slice (CRows.r10 hrows);have HB2:=Aside0.mk (HB1.out.trans (hb.mono HB1.out.size));dsimp only [cellsV,List.length_nil];clear hrows hb))
  have hc:=blk_alloc (blk_new w2 (.cells #[.int .i64 0,.slice A1 y1.length n1,.slice A2 y2.length n2,.slice A3 y3.length n3,.slice A4 y4.length n4,.slice A5 y5.length n5,.slice A6 y6.length n6,.slice A7 y7.length n7,.slice A8 0 n8,.slice A9 y9.length n9,.slice A10 y10.length n10] 65)) (.cells #[.int .i64 fa,.int .i64 fc] 40)
  have hf:=blk_new (w2.alloc (.cells #[.int .i64 0,.slice A1 y1.length n1,.slice A2 y2.length n2,.slice A3 y3.length n3,.slice A4 y4.length n4,.slice A5 y5.length n5,.slice A6 y6.length n6,.slice A7 y7.length n7,.slice A8 0 n8,.slice A9 y9.length n9,.slice A10 y10.length n10] 65)) (.cells #[.int .i64 fa,.int .i64 fc] 40)
  simp only [World.size_alloc] at hf
  have hbe : Below w2.heap.size w2 ((w2.alloc (.cells #[.int .i64 0,.slice A1 y1.length n1,.slice A2 y2.length n2,.slice A3 y3.length n3,.slice A4 y4.length n4,.slice A5 y5.length n5,.slice A6 y6.length n6,.slice A7 y7.length n7,.slice A8 0 n8,.slice A9 y9.length n9,.slice A10 y10.length n10] 65)).alloc (.cells #[.int .i64 fa,.int .i64 fc] 40)):=below_alloc (below_alloc (Below.refl _ _) _) _
  have HB3:=Aside0.mk (HB2.out.trans (hbe.mono HB2.out.size))
  clear hbe
  generalize (w2.alloc (.cells #[.int .i64 0,.slice A1 y1.length n1,.slice A2 y2.length n2,.slice A3 y3.length n3,.slice A4 y4.length n4,.slice A5 y5.length n5,.slice A6 y6.length n6,.slice A7 y7.length n7,.slice A8 0 n8,.slice A9 y9.length n9,.slice A10 y10.length n10] 65)).alloc (.cells #[.int .i64 fa,.int .i64 fc] 40) = w3 at hc hf HB3 ⊢
  generalize w2.heap.size = g at hc hf ⊢
  have c0 : w3.cell? ⟨g,0,none⟩ = some (.int .i64 0):=blk_cell hc 0
  have c8 : w3.cell? ⟨g,8,none⟩ = some (.slice A8 0 n8):=blk_cell hc 8
  have f0 : w3.cell? ⟨g + 1,0,none⟩ = some (.int .i64 fa):=blk_cell hf 0
  have f1 : w3.cell? ⟨g + 1,1,none⟩ = some (.int .i64 fc):=blk_cell hf 1
  clear hc hf
  go_wp2
  go_ret
  exact ⟨by simp [h0],HB3.out⟩
end Go.Proofs.YtojepjkpnponoaaDoor.Asc
end
section
namespace Go.Proofs.YtojepjkpnponoaaDoor.Asc
open Go Go.RowKit Go.Proofs.YtojepjkpnponoaaDoorW.PrintWords Go.Proofs.YtojepjkpnponoaaDoorW.PrintLast Go.Proofs.YtojepjkpnponoaaDoorW.PrintMore
set_option linter.unusedVariables false
set_option linter.unusedSimpArgs false
attribute [local go_sem high] eqA40
set_option maxHeartbeats 4000000 in
set_option maxRecDepth 100000 in
theorem right_ok {w : World} {s : ByteArray} {x : S65} (hG : GV w) (hs : s.size ≤ 140737488355328) (hr : readF s = (x,0,0)) :
    Calls Tryd.prog 8 #[.string s] w fun e w' => e = .returned (.bool true) ∧ Below w.heap.size w w':=by
  have hlaw:=right_law s
  rw [hr] at hlaw
  have hfit:=readF_fits hr
  obtain ⟨y0,y1,y2,y3,y4,y5,y6,y7,y8,y9,y10⟩:=x
  have HG:=Aside0.mk hG
  have HS:=Aside0.mk hs
  have HRF:=Aside0.mk hr
  have HLAW:=Aside0.mk hlaw
  have HFIT:=Aside0.mk hfit
  clear hG hs hr hlaw hfit
  go_enter Tryd.func8,Tryd.ntmps8
  go_upto_region 4 with (first|(go_at_call 25;refine (works_calls HG.out).mono ?_;rintro e w1 ⟨rfl,hb1⟩;have HB1:=Aside0.mk hb1;clear hb1)|(go_at_call 29;refine (read_calls (GV_below HG.out HB1.out) HS.out).mono ?_;rw [HRF.out];rintro e w2 ⟨v,rfl,hrows,hb⟩;obtain ⟨v1,v2,v3,v4,v5,v6,v7,v8,v9,v10⟩:=v;obtain ⟨A1,n1,rfl⟩:=Kd.R_slice (CRows.r1 hrows);obtain ⟨A2,n2,rfl⟩:=Kd.R_slice (CRows.r2 hrows);obtain ⟨A3,n3,rfl⟩:=Kd.R_slice (CRows.r3 hrows);obtain ⟨A4,n4,rfl⟩:=Kd.R_slice (CRows.r4 hrows);obtain ⟨A5,n5,rfl⟩:=Kd.R_slice (CRows.r5 hrows);obtain ⟨A6,n6,rfl⟩:=Kd.R_slice (CRows.r6 hrows);obtain ⟨A7,n7,rfl⟩:=Kd.R_slice (CRows.r7 hrows);obtain ⟨A8,n8,rfl⟩:=Kd.R_slice (CRows.r8 hrows);obtain ⟨A9,n9,rfl⟩:=Kd.R_slice (CRows.r9 hrows);obtain ⟨A10,n10,rfl⟩:=Kd.R_slice (CRows.r10 hrows);have HROW:=Aside0.mk hrows;have HB2:=Aside0.mk (HB1.out.trans (hb.mono HB1.out.size));dsimp only [cellsV];clear hrows hb))
  have hc:=blk_alloc (blk_new w2 (.cells #[.int .i64 y0,.slice A1 y1.length n1,.slice A2 y2.length n2,.slice A3 y3.length n3,.slice A4 y4.length n4,.slice A5 y5.length n5,.slice A6 y6.length n6,.slice A7 y7.length n7,.slice A8 y8.length n8,.slice A9 y9.length n9,.slice A10 y10.length n10] 65)) (.cells #[.int .i64 0,.int .i64 0] 40)
  have hf:=blk_new (w2.alloc (.cells #[.int .i64 y0,.slice A1 y1.length n1,.slice A2 y2.length n2,.slice A3 y3.length n3,.slice A4 y4.length n4,.slice A5 y5.length n5,.slice A6 y6.length n6,.slice A7 y7.length n7,.slice A8 y8.length n8,.slice A9 y9.length n9,.slice A10 y10.length n10] 65)) (.cells #[.int .i64 0,.int .i64 0] 40)
  simp only [World.size_alloc] at hf
  have hbe : Below w2.heap.size w2 ((w2.alloc (.cells #[.int .i64 y0,.slice A1 y1.length n1,.slice A2 y2.length n2,.slice A3 y3.length n3,.slice A4 y4.length n4,.slice A5 y5.length n5,.slice A6 y6.length n6,.slice A7 y7.length n7,.slice A8 y8.length n8,.slice A9 y9.length n9,.slice A10 y10.length n10] 65)).alloc (.cells #[.int .i64 0,.int .i64 0] 40)):=below_alloc (below_alloc (Below.refl _ _) _) _
  have HB3:=Aside0.mk (HB2.out.trans (hbe.mono HB2.out.size))
  have hrow:=HROW.out.below hbe
  clear hbe HROW
  generalize (w2.alloc (.cells #[.int .i64 y0,.slice A1 y1.length n1,.slice A2 y2.length n2,.slice A3 y3.length n3,.slice A4 y4.length n4,.slice A5 y5.length n5,.slice A6 y6.length n6,.slice A7 y7.length n7,.slice A8 y8.length n8,.slice A9 y9.length n9,.slice A10 y10.length n10] 65)).alloc (.cells #[.int .i64 0,.int .i64 0] 40) = w3 at hc hf HB3 hrow ⊢
  have hCR : CR w3 ⟨y0,y1,y2,y3,y4,y5,y6,y7,y8,y9,y10⟩ ⟨A1,A2,A3,A4,A5,A6,A7,A8,A9,A10,n1,n2,n3,n4,n5,n6,n7,n8,n9,n10⟩:=⟨(Kd.R_reads' hrow.r1).2.2,(Kd.R_reads' hrow.r2).2.2,(Kd.R_reads' hrow.r3).2.2,(Kd.R_reads' hrow.r4).2.2,(Kd.R_reads' hrow.r5).2.2,(Kd.R_reads' hrow.r6).2.2,(Kd.R_reads' hrow.r7).2.2,(Kd.R_reads' hrow.r8).2.2,(Kd.R_reads' hrow.r9).2.2,(Kd.R_reads' hrow.r10).2.2⟩
  have hCap : Caps ⟨y0,y1,y2,y3,y4,y5,y6,y7,y8,y9,y10⟩ ⟨A1,A2,A3,A4,A5,A6,A7,A8,A9,A10,n1,n2,n3,n4,n5,n6,n7,n8,n9,n10⟩:=⟨(Kd.R_reads' hrow.r1).2.1,(Kd.R_reads' hrow.r2).2.1,(Kd.R_reads' hrow.r3).2.1,(Kd.R_reads' hrow.r4).2.1,(Kd.R_reads' hrow.r5).2.1,(Kd.R_reads' hrow.r6).2.1,(Kd.R_reads' hrow.r7).2.1,(Kd.R_reads' hrow.r8).2.1,(Kd.R_reads' hrow.r9).2.1,(Kd.R_reads' hrow.r10).2.1⟩
  have hCK:=check_calls hCR hCap (fun r hr => by have:=HFIT.out.2.1 r hr;omega) (fun t ht => by have:=HFIT.out.2.2 t ht;omega)
  dsimp only [cellsC] at hCK
  have hck0 : (lookF ⟨y0,y1,y2,y3,y4,y5,y6,y7,y8,y9,y10⟩).2 = 0:=by
    rcases HLAW.out with h|h
    · exact absurd rfl h.1
    · exact h.2.2.1
  rw [hck0] at hCK
  generalize (lookF ⟨y0,y1,y2,y3,y4,y5,y6,y7,y8,y9,y10⟩).1 = ck at hCK
  have HCK:=Aside0.mk hCK
  clear hck0 hCR hCap hCK hrow
  generalize w2.heap.size = g at hc hf ⊢
  have c0 : w3.cell? ⟨g,0,none⟩ = some (.int .i64 y0):=blk_cell hc 0
  have c1 : w3.cell? ⟨g,1,none⟩ = some (.slice A1 y1.length n1):=blk_cell hc 1
  have c2 : w3.cell? ⟨g,2,none⟩ = some (.slice A2 y2.length n2):=blk_cell hc 2
  have c3 : w3.cell? ⟨g,3,none⟩ = some (.slice A3 y3.length n3):=blk_cell hc 3
  have c4 : w3.cell? ⟨g,4,none⟩ = some (.slice A4 y4.length n4):=blk_cell hc 4
  have c5 : w3.cell? ⟨g,5,none⟩ = some (.slice A5 y5.length n5):=blk_cell hc 5
  have c6 : w3.cell? ⟨g,6,none⟩ = some (.slice A6 y6.length n6):=blk_cell hc 6
  have c7 : w3.cell? ⟨g,7,none⟩ = some (.slice A7 y7.length n7):=blk_cell hc 7
  have c8 : w3.cell? ⟨g,8,none⟩ = some (.slice A8 y8.length n8):=blk_cell hc 8
  have c9 : w3.cell? ⟨g,9,none⟩ = some (.slice A9 y9.length n9):=blk_cell hc 9
  have c10 : w3.cell? ⟨g,10,none⟩ = some (.slice A10 y10.length n10):=blk_cell hc 10
  have f0 : w3.cell? ⟨g + 1,0,none⟩ = some (.int .i64 0):=blk_cell hf 0
  have f1 : w3.cell? ⟨g + 1,1,none⟩ = some (.int .i64 0):=blk_cell hf 1
  have HC:=Aside0.mk hc
  clear hc hf
  go_upto_region 7 with (go_at_call 30;refine HCK.out.mono ?_;rintro e w4 ⟨rfl,hb⟩;have HB4:=Aside0.mk (HB3.out.trans (hb.mono HB3.out.size));have HC4:=Aside0.mk ((hb.block _ (blk_lt HC.out)).trans HC.out);clear hb)
  clear f0 f1 c0 c1 c2 c3 c4 c5 c6 c7 c8 c9 c10
  obtain ⟨word,k,e,z,hh⟩ : ∃ word k e z,headF s = (word,k,e,z):=⟨_,_,_,_,rfl⟩
  have hL : word = aagB ∧ z = 0 ∧ y0 = k.getD 0 0 ∧ (y1.length : Int) = k.getD 1 0 ∧ (y2.length : Int) = k.getD 2 0 ∧ (y3.length : Int) = k.getD 3 0 ∧ (y8.length : Int) = k.getD 4 0 ∧ (y4.length : Int) = k.getD 5 0 ∧ (y5.length : Int) = k.getD 6 0 ∧ (y6.length : Int) = k.getD 7 0 ∧ (y7.length : Int) = k.getD 8 0:=by
    have h:=HLAW.out
    unfold RightR at h
    rw [hh] at h
    rcases h with h|h
    · exact absurd rfl h.1
    · exact h.2.2.2
  obtain ⟨rfl,rfl,q0,q1,q2,q3,q4,q5,q6,q7,q8⟩:=hL
  have hlen:=(head_ok hh).len
  obtain ⟨n,rfl,h10⟩:=head_end hh
  have HHD:=Aside0.mk (head_calls (GV_below HG.out HB4.out) HFIT.out.1)
  rw [hh] at HHD
  match k,hlen with
  | [a0,a1,a2,a3,a4,a5,a6,a7,a8],_ =>
  simp only [List.getD_cons_zero,List.getD_cons_succ] at q0 q1 q2 q3 q4 q5 q6 q7 q8
  subst q0 q1 q2 q3 q4 q5 q6 q7 q8
  unfold HeadEnd at HHD
  dsimp only [aagB] at HHD
  go_upto_region 8 with (go_at_call 21;refine HHD.out.mono ?_;rintro e w5 ⟨vk,rfl,hrk,hb⟩;obtain ⟨Ak,nk,rfl⟩:=Kd.R_slice hrk;have HRK:=Aside0.mk hrk;have HB5:=Aside0.mk (HB4.out.trans (hb.mono HB4.out.size));have HC5:=Aside0.mk ((hb.block _ (blk_lt HC4.out)).trans HC4.out);clear hb hrk)
  have hc:=blk_alloc HC5.out (.cells #[.int .i64 0,.int .i64 0] 40)
  have hf:=blk_new w5 (.cells #[.int .i64 0,.int .i64 0] 40)
  have hbe : Below w5.heap.size w5 (w5.alloc (.cells #[.int .i64 0,.int .i64 0] 40)):=below_alloc (Below.refl _ _) _
  have hrk:=Kd.R_below HRK.out hbe
  have HB6:=Aside0.mk (HB5.out.trans (hbe.mono HB5.out.size))
  clear hbe HRK
  generalize w5.alloc (.cells #[.int .i64 0,.int .i64 0] 40) = w6 at hc hf HB6 hrk ⊢
  generalize w5.heap.size = g10 at hf ⊢
  obtain ⟨kb,kc,ek,_,hcell⟩:=row_some hrk (by exact Nat.succ_pos _)
  injection ek with ek _ _
  subst ek
  have r0 : w6.cell? ⟨kb,0,none⟩ = some (.int .i64 y0):=hcell 0 (Nat.succ_pos _)
  have f0 : w6.cell? ⟨g10,0,none⟩ = some (.int .i64 0):=blk_cell hf 0
  have f1 : w6.cell? ⟨g10,1,none⟩ = some (.int .i64 0):=blk_cell hf 1
  have HCELL:=Aside0.mk hcell
  have HC6:=Aside0.mk hc
  clear hcell hc hf hrk
  have hns : n < s.size:=by
    have h3:=(List.getElem?_eq_some_iff.1 h10).1
    rw [data_length] at h3
    exact h3
  have hby : (s[n]'hns) = 10:=by
    have h3:=(List.getElem?_eq_some_iff.1 h10)
    exact h3.2
  have hz:=HFIT.out.1
  have DW:=Aside0.mk (show wrap64 (n : Int) = n from IntWalk.wrap64_in _ (by omega))
  have HNS:=Aside0.mk (show n + 1 ≤ s.size from hns)
  have HBN:=Aside0.mk (show ∀ h : n < s.size,(s[n]'h).toNat = 10 from fun h => by rw [hby];rfl)
  clear hz hby hns h10
  go_upto_region 10 with (fail)
  all_goals (try (have hn_:=HNS.out;have dw_:=DW.out;exfalso;omega))
  all_goals (try (rename_i hq_;have hn_:=HNS.out;exfalso;rcases hq_ with hq_|hq_;· omega
                  · simp [DW.out,HBN.out] at hq_))
  have hcell:=HCELL.out
  have r1 : w6.cell? ⟨kb,1,none⟩ = some (.int .i64 (y1.length : Int)):=hcell 1 (by simp)
  have r2 : w6.cell? ⟨kb,2,none⟩ = some (.int .i64 (y2.length : Int)):=hcell 2 (by simp)
  have r3 : w6.cell? ⟨kb,3,none⟩ = some (.int .i64 (y3.length : Int)):=hcell 3 (by simp)
  have r4 : w6.cell? ⟨kb,4,none⟩ = some (.int .i64 (y8.length : Int)):=hcell 4 (by simp)
  have r5 : w6.cell? ⟨kb,5,none⟩ = some (.int .i64 (y4.length : Int)):=hcell 5 (by simp)
  have r6 : w6.cell? ⟨kb,6,none⟩ = some (.int .i64 (y5.length : Int)):=hcell 6 (by simp)
  have r7 : w6.cell? ⟨kb,7,none⟩ = some (.int .i64 (y6.length : Int)):=hcell 7 (by simp)
  have r8 : w6.cell? ⟨kb,8,none⟩ = some (.int .i64 (y7.length : Int)):=hcell 8 (by simp)
  clear hcell
  have c0 : w6.cell? ⟨g,0,none⟩ = some (.int .i64 y0):=blk_cell HC6.out 0
  have c1 : w6.cell? ⟨g,1,none⟩ = some (.slice A1 y1.length n1):=blk_cell HC6.out 1
  have c2 : w6.cell? ⟨g,2,none⟩ = some (.slice A2 y2.length n2):=blk_cell HC6.out 2
  have c3 : w6.cell? ⟨g,3,none⟩ = some (.slice A3 y3.length n3):=blk_cell HC6.out 3
  have c8 : w6.cell? ⟨g,8,none⟩ = some (.slice A8 y8.length n8):=blk_cell HC6.out 8
  have c4 : w6.cell? ⟨g,4,none⟩ = some (.slice A4 y4.length n4):=blk_cell HC6.out 4
  have c5 : w6.cell? ⟨g,5,none⟩ = some (.slice A5 y5.length n5):=blk_cell HC6.out 5
  have c6 : w6.cell? ⟨g,6,none⟩ = some (.slice A6 y6.length n6):=blk_cell HC6.out 6
  have c7 : w6.cell? ⟨g,7,none⟩ = some (.slice A7 y7.length n7):=blk_cell HC6.out 7
  go_quiet (fail)
  go_wp2
  go_quiet (fail)
  go_wp2
  go_ret
  exact ⟨by simp,HB6.out.trans (pw_below_drewN (pw_below_drewN (Below.refl _ _) _) _)⟩
theorem right_calls {w : World} {s : ByteArray} (hG : GV w) (hs : s.size ≤ 140737488355328) :
    Calls Tryd.prog 8 #[.string s] w fun e w' => e = .returned (.bool true) ∧ Below w.heap.size w w':=by
  have h:=right_law s
  obtain ⟨⟨x,fa,fc⟩,hr⟩ : ∃ r,readF s = r:=⟨_,rfl⟩
  rw [hr] at h
  rcases h with ⟨h1,h2,h3,h4,h5⟩|⟨h1,h2,_⟩
  · exact right_bad hG hs hr h1 h2 h3 h4 h5
  · dsimp only at h1 h2
    subst h1
    subst h2
    exact right_ok hG hs hr
end Go.Proofs.YtojepjkpnponoaaDoor.Asc
end
