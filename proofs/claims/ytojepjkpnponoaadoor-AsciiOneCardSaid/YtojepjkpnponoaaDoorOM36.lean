import Derived.Test.YtojepjkpnponoaaDoorOAWorks
import Derived.Test.YtojepjkpnponoaaDoorOM31
import Derived.Test.YtojepjkpnponoaaDoorOAsc1
import Derived.Laws.Concat
section
namespace Go.Proofs.YtojepjkpnponoaaDoor.Asc
open Go Go.RowKit Go.Proofs.YtojepjkpnponoaaDoorW.PrintWords Go.Proofs.YtojepjkpnponoaaDoorW.PrintLast Go.Proofs.YtojepjkpnponoaaDoorW.PrintMore
set_option linter.unusedVariables false
set_option linter.unusedSimpArgs false
attribute [local go_sem high] eqA40
set_option maxHeartbeats 4000000 in
set_option maxRecDepth 100000 in
theorem one_early {w : World} {s : ByteArray} {b : Int} {x : S65} {fa fc : Int} (hG : GV w) (hs : s.size ≤ 140737488355328) (hr : readF s = (x,fa,fc)) (h0 : fc ≠ 0 ∨ (fa = 0 ∧ fc = 0 ∧ (s.size = 0 ∨ 262144 ≤ s.size))) :
    Calls Tryd.prog 9 #[.string s,.int .u8 b] w fun e w' => e = .returned (.bool true) ∧ Below w.heap.size w w':=by
  obtain ⟨y0,y1,y2,y3,y4,y5,y6,y7,y8,y9,y10⟩:=x
  have HG:=Aside0.mk hG
  have HS:=Aside0.mk hs
  have HRF:=Aside0.mk hr
  have H0:=Aside0.mk h0
  clear hG hs hr h0
  go_enter Tryd.func9,Tryd.ntmps9
  go_upto_region 4 with (first|(go_at_call 25;refine (works_calls HG.out).mono ?_;rintro e w1 ⟨rfl,hb1⟩;have HB1:=Aside0.mk hb1;clear hb1)|(go_at_call 29;refine (read_calls (GV_below HG.out HB1.out) HS.out).mono ?_;rw [HRF.out];rintro e w2 ⟨v,rfl,hrows,hb⟩;obtain ⟨v1,v2,v3,v4,v5,v6,v7,v8,v9,v10⟩:=v;obtain ⟨A1,n1,rfl⟩:=Kd.R_slice (CRows.r1 hrows);obtain ⟨A2,n2,rfl⟩:=Kd.R_slice (CRows.r2 hrows);obtain ⟨A3,n3,rfl⟩:=Kd.R_slice (CRows.r3 hrows);obtain ⟨A4,n4,rfl⟩:=Kd.R_slice (CRows.r4 hrows);obtain ⟨A5,n5,rfl⟩:=Kd.R_slice (CRows.r5 hrows);obtain ⟨A6,n6,rfl⟩:=Kd.R_slice (CRows.r6 hrows);obtain ⟨A7,n7,rfl⟩:=Kd.R_slice (CRows.r7 hrows);obtain ⟨A8,n8,rfl⟩:=Kd.R_slice (CRows.r8 hrows);obtain ⟨A9,n9,rfl⟩:=Kd.R_slice (CRows.r9 hrows);obtain ⟨A10,n10,rfl⟩:=Kd.R_slice (CRows.r10 hrows);have HB2:=Aside0.mk (HB1.out.trans (hb.mono HB1.out.size));dsimp only [cellsV];clear hrows hb))
  have hf:=blk_new (w2.alloc (.cells #[.int .i64 y0,.slice A1 y1.length n1,.slice A2 y2.length n2,.slice A3 y3.length n3,.slice A4 y4.length n4,.slice A5 y5.length n5,.slice A6 y6.length n6,.slice A7 y7.length n7,.slice A8 y8.length n8,.slice A9 y9.length n9,.slice A10 y10.length n10] 65)) (.cells #[.int .i64 fa,.int .i64 fc] 40)
  simp only [World.size_alloc] at hf
  have hbe : Below w2.heap.size w2 ((w2.alloc (.cells #[.int .i64 y0,.slice A1 y1.length n1,.slice A2 y2.length n2,.slice A3 y3.length n3,.slice A4 y4.length n4,.slice A5 y5.length n5,.slice A6 y6.length n6,.slice A7 y7.length n7,.slice A8 y8.length n8,.slice A9 y9.length n9,.slice A10 y10.length n10] 65)).alloc (.cells #[.int .i64 fa,.int .i64 fc] 40)):=below_alloc (below_alloc (Below.refl _ _) _) _
  have HB3:=Aside0.mk (HB2.out.trans (hbe.mono HB2.out.size))
  clear hbe
  generalize (w2.alloc (.cells #[.int .i64 y0,.slice A1 y1.length n1,.slice A2 y2.length n2,.slice A3 y3.length n3,.slice A4 y4.length n4,.slice A5 y5.length n5,.slice A6 y6.length n6,.slice A7 y7.length n7,.slice A8 y8.length n8,.slice A9 y9.length n9,.slice A10 y10.length n10] 65)).alloc (.cells #[.int .i64 fa,.int .i64 fc] 40) = w3 at hf HB3 ⊢
  generalize w2.heap.size = g at hf ⊢
  have f0 : w3.cell? ⟨g + 1,0,none⟩ = some (.int .i64 fa):=blk_cell hf 0
  have f1 : w3.cell? ⟨g + 1,1,none⟩ = some (.int .i64 fc):=blk_cell hf 1
  clear hf
  rcases H0.out with h|⟨rfl,rfl,h⟩
  · have b1 : (fc == 0) = false:=by simpa using h
    clear h
    go_wp2
    all_goals (go_ret;exact ⟨by simp,HB3.out⟩)
  · rcases h with h|h
    · have d1 : ((s.size : Int) == 0) = true:=by simp [h]
      clear h
      go_wp2
      all_goals (first|(exfalso;simp_all;done)|(go_ret;exact ⟨by simp,HB3.out⟩)|trace_state)
    · have d1 : ((s.size : Int) == 0) = false:=beq_eq_false_iff_ne.2 (by omega)
      have d2 : decide (262144 ≤ (s.size : Int)) = true:=decide_eq_true (by omega)
      clear h
      go_wp2
      all_goals (first|(go_ret;exact ⟨by simp,HB3.out⟩)|trace_state)
end Go.Proofs.YtojepjkpnponoaaDoor.Asc
end
section
namespace Go.Proofs.YtojepjkpnponoaaDoor.Asc
open Go Go.RowKit Go.Proofs.YtojepjkpnponoaaDoorW.PrintWords Go.Proofs.YtojepjkpnponoaaDoorW.PrintLast Go.Proofs.YtojepjkpnponoaaDoorW.PrintMore
set_option linter.unusedVariables false
set_option linter.unusedSimpArgs false
attribute [local go_sem high] eqA40
theorem one_byte (W : World) (b : Int) : ∀ i,i < 1 → (W.alloc (.cells #[.int .u8 b] 5)).cell? ⟨W.heap.size,0 + i,none⟩ = some (.int .u8 ([b].getD i 0)):=fun i hi => by
  obtain rfl : i = 0:=by omega
  exact blk_cell (blk_new W (.cells #[.int .u8 b] 5)) 0
theorem append_bad {s : ByteArray} {b : Int} (hb : 0 ≤ b ∧ b < 256) (h10 : b ≠ 10) {x : S65} {a c : Int} (h : readF (s ++ strOfNums [b]) = (x,a,c)) : c ≠ 0:=by
  rintro rfl
  obtain ⟨r,h1,h2⟩:=read_nl h
  have e : (s ++ strOfNums [b]).data.toList = s.data.toList ++ [UInt8.ofNat b.toNat]:=by
    rw [ByteArray.data_append,Array.toList_append,strOfNums_data]
    rfl
  have hz : (s ++ strOfNums [b]).size = s.size + 1:=by rw [ByteArray.size_append,strOfNums_size];rfl
  have hl:=data_length s
  rw [e,List.getElem?_append_right (by omega)] at h2
  have hr : r - s.data.toList.length = 0:=by omega
  rw [hr] at h2
  have h3 : UInt8.ofNat b.toNat = 10:=by simpa using h2
  have h4:=congrArg UInt8.toNat h3
  have h5 : (10 : UInt8).toNat = 10:=rfl
  rw [h5,UInt8.toNat_ofNat'] at h4
  omega
theorem less_bad {s : ByteArray} {x : S65} {a c : Int} (h : readF (s.extract 0 (s.size - 1)) = (x,a,c)) : c ≠ 0 ∨ (1 < s.size ∧ s.data.toList[s.size - 2]? = some 10):=by
  by_cases hc : c = 0
  · subst hc
    obtain ⟨r,h1,h2⟩:=read_nl h
    rw [ByteArray.size_extract] at h1
    rw [Stim.extract_list,List.getElem?_take] at h2
    split at h2
    · rw [List.getElem?_drop] at h2
      right
      refine ⟨by omega,?_⟩
      rw [← h2]
      congr 1
      omega
    · cases h2
  · exact Or.inl hc
set_option maxHeartbeats 4000000 in
set_option maxRecDepth 100000 in
theorem one_main {w : World} {s : ByteArray} {b : Int} {x : S65} (hG : GV w) (hs : s.size ≤ 140737488355328) (hr : readF s = (x,0,0)) (h0 : 0 < s.size ∧ s.size < 262144) (hb : 0 ≤ b ∧ b < 256) :
    Calls Tryd.prog 9 #[.string s,.int .u8 b] w fun e w' => e = .returned (.bool true) ∧ Below w.heap.size w w':=by
  obtain ⟨y0,y1,y2,y3,y4,y5,y6,y7,y8,y9,y10⟩:=x
  have HG:=Aside0.mk hG
  have HS:=Aside0.mk hs
  have HRF:=Aside0.mk hr
  have HZ:=Aside0.mk h0
  have HB0:=Aside0.mk hb
  clear hG hs hr h0 hb
  go_enter Tryd.func9,Tryd.ntmps9
  go_upto_region 4 with (first|(go_at_call 25;refine (works_calls HG.out).mono ?_;rintro e w1 ⟨rfl,hb1⟩;have HB1:=Aside0.mk hb1;clear hb1)|(go_at_call 29;refine (read_calls (GV_below HG.out HB1.out) HS.out).mono ?_;rw [HRF.out];rintro e w2 ⟨v,rfl,hrows,hb⟩;obtain ⟨v1,v2,v3,v4,v5,v6,v7,v8,v9,v10⟩:=v;obtain ⟨A1,n1,rfl⟩:=Kd.R_slice (CRows.r1 hrows);obtain ⟨A2,n2,rfl⟩:=Kd.R_slice (CRows.r2 hrows);obtain ⟨A3,n3,rfl⟩:=Kd.R_slice (CRows.r3 hrows);obtain ⟨A4,n4,rfl⟩:=Kd.R_slice (CRows.r4 hrows);obtain ⟨A5,n5,rfl⟩:=Kd.R_slice (CRows.r5 hrows);obtain ⟨A6,n6,rfl⟩:=Kd.R_slice (CRows.r6 hrows);obtain ⟨A7,n7,rfl⟩:=Kd.R_slice (CRows.r7 hrows);obtain ⟨A8,n8,rfl⟩:=Kd.R_slice (CRows.r8 hrows);obtain ⟨A9,n9,rfl⟩:=Kd.R_slice (CRows.r9 hrows);obtain ⟨A10,n10,rfl⟩:=Kd.R_slice (CRows.r10 hrows);have HB2:=Aside0.mk (HB1.out.trans (hb.mono HB1.out.size));dsimp only [cellsV];clear hrows hb))
  have hf:=blk_new (w2.alloc (.cells #[.int .i64 y0,.slice A1 y1.length n1,.slice A2 y2.length n2,.slice A3 y3.length n3,.slice A4 y4.length n4,.slice A5 y5.length n5,.slice A6 y6.length n6,.slice A7 y7.length n7,.slice A8 y8.length n8,.slice A9 y9.length n9,.slice A10 y10.length n10] 65)) (.cells #[.int .i64 0,.int .i64 0] 40)
  simp only [World.size_alloc] at hf
  have hbe : Below w2.heap.size w2 ((w2.alloc (.cells #[.int .i64 y0,.slice A1 y1.length n1,.slice A2 y2.length n2,.slice A3 y3.length n3,.slice A4 y4.length n4,.slice A5 y5.length n5,.slice A6 y6.length n6,.slice A7 y7.length n7,.slice A8 y8.length n8,.slice A9 y9.length n9,.slice A10 y10.length n10] 65)).alloc (.cells #[.int .i64 0,.int .i64 0] 40)):=below_alloc (below_alloc (Below.refl _ _) _) _
  have HB3:=Aside0.mk (HB2.out.trans (hbe.mono HB2.out.size))
  clear hbe
  generalize (w2.alloc (.cells #[.int .i64 y0,.slice A1 y1.length n1,.slice A2 y2.length n2,.slice A3 y3.length n3,.slice A4 y4.length n4,.slice A5 y5.length n5,.slice A6 y6.length n6,.slice A7 y7.length n7,.slice A8 y8.length n8,.slice A9 y9.length n9,.slice A10 y10.length n10] 65)).alloc (.cells #[.int .i64 0,.int .i64 0] 40) = w3 at hf HB3 ⊢
  generalize w2.heap.size = g at hf ⊢
  have f0 : w3.cell? ⟨g + 1,0,none⟩ = some (.int .i64 0):=blk_cell hf 0
  have f1 : w3.cell? ⟨g + 1,1,none⟩ = some (.int .i64 0):=blk_cell hf 1
  clear hf
  have d1 : ((s.size : Int) == 0) = false:=beq_eq_false_iff_ne.2 (by have:=HZ.out;omega)
  have d2 : decide (262144 ≤ (s.size : Int)) = false:=decide_eq_false (by have:=HZ.out;omega)
  go_upto_region 6 with (fail)
  all_goals (try (have hz_:=HZ.out;exfalso;omega))
  clear f0 f1
  by_cases hb10 : b = 10
  · subst hb10
    go_upto_region 8 with (fail)
    have hcv:=run_convert_bytes_arg (P:=Tryd.prog) (w:=w3.alloc (.cells #[.int .u8 11] 5)) 70 5 Tryd.underlying70 Tryd.underlying5 w3.heap.size 0 1 1 [11] rfl (one_byte w3 11) 9 Tryd.underlying9
    have hadd : (Op.stringOp .add s (strOfNums [11])).run Tryd.prog (w3.alloc (.cells #[.int .u8 11] 5)) = .ok (.string (s ++ strOfNums [11])) (w3.alloc (.cells #[.int .u8 11] 5)):=run_string_add_sum _ _ _ (by have:=HZ.out;have : (strOfNums [11]).size = 1:=strOfNums_size _;omega)
    obtain ⟨⟨⟨z0,z1,z2,z3,z4,z5,z6,z7,z8,z9,z10⟩,ga,gc⟩,hR2⟩ : ∃ r,readF (s ++ strOfNums [11]) = r:=⟨_,rfl⟩
    have hgc : gc ≠ 0:=append_bad (by omega) (by omega) hR2
    have HR2:=Aside0.mk hR2
    have HBA:=Aside0.mk (HB3.out.trans ((below_alloc (Below.refl w3.heap.size w3) (.cells #[.int .u8 11] 5)).mono HB3.out.size))
    have hsz2 : (s ++ strOfNums [11]).size = s.size + 1:=by rw [ByteArray.size_append,strOfNums_size];rfl
    have HSZ:=Aside0.mk hsz2
    clear hR2 hsz2
    go_upto_region 9 with (go_at_call 29;refine (read_calls (GV_below HG.out HBA.out) (by have:=HZ.out;rw [HSZ.out];omega)).mono ?_;(try rw [hx3]);rw [HR2.out];rintro e w5 ⟨v,rfl,hrows,hb⟩;obtain ⟨v1,v2,v3,v4,v5,v6,v7,v8,v9,v10⟩:=v;obtain ⟨B1,m1,rfl⟩:=Kd.R_slice (CRows.r1 hrows);obtain ⟨B2,m2,rfl⟩:=Kd.R_slice (CRows.r2 hrows);obtain ⟨B3,m3,rfl⟩:=Kd.R_slice (CRows.r3 hrows);obtain ⟨B4,m4,rfl⟩:=Kd.R_slice (CRows.r4 hrows);obtain ⟨B5,m5,rfl⟩:=Kd.R_slice (CRows.r5 hrows);obtain ⟨B6,m6,rfl⟩:=Kd.R_slice (CRows.r6 hrows);obtain ⟨B7,m7,rfl⟩:=Kd.R_slice (CRows.r7 hrows);obtain ⟨B8,m8,rfl⟩:=Kd.R_slice (CRows.r8 hrows);obtain ⟨B9,m9,rfl⟩:=Kd.R_slice (CRows.r9 hrows);obtain ⟨B10,m10,rfl⟩:=Kd.R_slice (CRows.r10 hrows);have HB5:=Aside0.mk (HBA.out.trans (hb.mono HBA.out.size));dsimp only [cellsV];clear hrows hb)
    clear hcv hadd
    have hf:=blk_new (w5.alloc (.cells #[.int .i64 z0,.slice B1 z1.length m1,.slice B2 z2.length m2,.slice B3 z3.length m3,.slice B4 z4.length m4,.slice B5 z5.length m5,.slice B6 z6.length m6,.slice B7 z7.length m7,.slice B8 z8.length m8,.slice B9 z9.length m9,.slice B10 z10.length m10] 65)) (.cells #[.int .i64 ga,.int .i64 gc] 40)
    simp only [World.size_alloc] at hf
    have hbe : Below w5.heap.size w5 ((w5.alloc (.cells #[.int .i64 z0,.slice B1 z1.length m1,.slice B2 z2.length m2,.slice B3 z3.length m3,.slice B4 z4.length m4,.slice B5 z5.length m5,.slice B6 z6.length m6,.slice B7 z7.length m7,.slice B8 z8.length m8,.slice B9 z9.length m9,.slice B10 z10.length m10] 65)).alloc (.cells #[.int .i64 ga,.int .i64 gc] 40)):=below_alloc (below_alloc (Below.refl _ _) _) _
    have HB6:=Aside0.mk (HB5.out.trans (hbe.mono HB5.out.size))
    clear hbe
    generalize (w5.alloc (.cells #[.int .i64 z0,.slice B1 z1.length m1,.slice B2 z2.length m2,.slice B3 z3.length m3,.slice B4 z4.length m4,.slice B5 z5.length m5,.slice B6 z6.length m6,.slice B7 z7.length m7,.slice B8 z8.length m8,.slice B9 z9.length m9,.slice B10 z10.length m10] 65)).alloc (.cells #[.int .i64 ga,.int .i64 gc] 40) = w6 at hf HB6 ⊢
    generalize w5.heap.size = g5 at hf ⊢
    have HF6:=Aside0.mk hf
    clear hf
    obtain ⟨⟨⟨t0,t1,t2,t3,t4,t5,t6,t7,t8,t9,t10⟩,ha,hc⟩,hR3⟩ : ∃ r,readF (s.extract 0 (s.size - 1)) = r:=⟨_,rfl⟩
    have HLS:=Aside0.mk (less_bad hR3)
    have HR3:=Aside0.mk hR3
    clear hR3
    have hx0 : wrap64 ((s.size : Int) - 1) = (s.size : Int) - 1:=IntWalk.wrap64_in _ (by have:=HZ.out;omega)
    have hx1 : (0 : Int) ≤ (s.size : Int) - 1:=by have:=HZ.out;omega
    have hx2 : (s.size : Int) - 1 ≤ (s.size : Int):=by omega
    have hx3 : ((s.size : Int) - 1).toNat = s.size - 1:=by have:=HZ.out;omega
    go_upto_region 10 with (go_at_call 29;refine (read_calls (GV_below HG.out HB6.out) (by have:=HZ.out;rw [ByteArray.size_extract];omega)).mono ?_;(try rw [hx3]);rw [HR3.out];rintro e w7 ⟨v,rfl,hrows,hb⟩;obtain ⟨v1,v2,v3,v4,v5,v6,v7,v8,v9,v10⟩:=v;obtain ⟨C1,l1,rfl⟩:=Kd.R_slice (CRows.r1 hrows);obtain ⟨C2,l2,rfl⟩:=Kd.R_slice (CRows.r2 hrows);obtain ⟨C3,l3,rfl⟩:=Kd.R_slice (CRows.r3 hrows);obtain ⟨C4,l4,rfl⟩:=Kd.R_slice (CRows.r4 hrows);obtain ⟨C5,l5,rfl⟩:=Kd.R_slice (CRows.r5 hrows);obtain ⟨C6,l6,rfl⟩:=Kd.R_slice (CRows.r6 hrows);obtain ⟨C7,l7,rfl⟩:=Kd.R_slice (CRows.r7 hrows);obtain ⟨C8,l8,rfl⟩:=Kd.R_slice (CRows.r8 hrows);obtain ⟨C9,l9,rfl⟩:=Kd.R_slice (CRows.r9 hrows);obtain ⟨C10,l10,rfl⟩:=Kd.R_slice (CRows.r10 hrows);have HB7:=Aside0.mk (HB6.out.trans (hb.mono HB6.out.size));have HF7:=Aside0.mk ((hb.block _ (blk_lt HF6.out)).trans HF6.out);dsimp only [cellsV];clear hrows hb)
    have hf:=blk_new (w7.alloc (.cells #[.int .i64 t0,.slice C1 t1.length l1,.slice C2 t2.length l2,.slice C3 t3.length l3,.slice C4 t4.length l4,.slice C5 t5.length l5,.slice C6 t6.length l6,.slice C7 t7.length l7,.slice C8 t8.length l8,.slice C9 t9.length l9,.slice C10 t10.length l10] 65)) (.cells #[.int .i64 ha,.int .i64 hc] 40)
    simp only [World.size_alloc] at hf
    have hfa:=blk_alloc (blk_alloc HF7.out (.cells #[.int .i64 t0,.slice C1 t1.length l1,.slice C2 t2.length l2,.slice C3 t3.length l3,.slice C4 t4.length l4,.slice C5 t5.length l5,.slice C6 t6.length l6,.slice C7 t7.length l7,.slice C8 t8.length l8,.slice C9 t9.length l9,.slice C10 t10.length l10] 65)) (.cells #[.int .i64 ha,.int .i64 hc] 40)
    have hbe : Below w7.heap.size w7 ((w7.alloc (.cells #[.int .i64 t0,.slice C1 t1.length l1,.slice C2 t2.length l2,.slice C3 t3.length l3,.slice C4 t4.length l4,.slice C5 t5.length l5,.slice C6 t6.length l6,.slice C7 t7.length l7,.slice C8 t8.length l8,.slice C9 t9.length l9,.slice C10 t10.length l10] 65)).alloc (.cells #[.int .i64 ha,.int .i64 hc] 40)):=below_alloc (below_alloc (Below.refl _ _) _) _
    have HB8:=Aside0.mk (HB7.out.trans (hbe.mono HB7.out.size))
    clear hbe
    generalize (w7.alloc (.cells #[.int .i64 t0,.slice C1 t1.length l1,.slice C2 t2.length l2,.slice C3 t3.length l3,.slice C4 t4.length l4,.slice C5 t5.length l5,.slice C6 t6.length l6,.slice C7 t7.length l7,.slice C8 t8.length l8,.slice C9 t9.length l9,.slice C10 t10.length l10] 65)).alloc (.cells #[.int .i64 ha,.int .i64 hc] 40) = w8 at hf hfa HB8 ⊢
    generalize w7.heap.size = g7 at hf ⊢
    have g1 : w8.cell? ⟨g5 + 1,1,none⟩ = some (.int .i64 gc):=blk_cell hfa 1
    have h1 : w8.cell? ⟨g7 + 1,1,none⟩ = some (.int .i64 hc):=blk_cell hf 1
    clear hf hfa hx0 hx1 hx2 hx3
    have bg1 : (gc == 0) = false:=by simpa using hgc
    have bg2 : (gc != 0) = true:=by simpa using hgc
    by_cases hh : hc = 0
    · have HL2:=Aside0.mk (HLS.out.resolve_left (fun h => h hh))
      subst hh
      have dgt : decide (1 < (s.size : Int)) = true:=decide_eq_true (by have:=HL2.out.1;omega)
      have DW:=Aside0.mk (show wrap64 ((s.size : Int) - 2) = ((s.size - 2 : Nat) : Int) from (IntWalk.wrap64_in _ (by have:=HZ.out;omega)).trans (by have:=HL2.out.1;omega))
      have HBN:=Aside0.mk (show ∀ h : s.size - 2 < s.size,(s[s.size - 2]'h).toNat = 10 from fun h => by have h3:=(List.getElem?_eq_some_iff.1 HL2.out.2).2;rw [show s[s.size - 2] = 10 from h3];rfl)
      go_wp2
      all_goals (try (have hl_:=HL2.out.1;have dw_:=DW.out;exfalso;omega))
      go_ret
      exact ⟨by simp [DW.out,HBN.out],HB8.out⟩
    · have bh1 : (hc == 0) = false:=by simpa using hh
      have bh2 : (hc != 0) = true:=by simpa using hh
      clear hh HLS
      go_wp2
      go_ret
      exact ⟨by simp,HB8.out⟩
  · have e10 : (b == 10) = false:=by simpa using hb10
    go_upto_region 8 with (fail)
    have hcv:=run_convert_bytes_arg (P:=Tryd.prog) (w:=w3.alloc (.cells #[.int .u8 b] 5)) 70 5 Tryd.underlying70 Tryd.underlying5 w3.heap.size 0 1 1 [b] rfl (one_byte w3 b) 9 Tryd.underlying9
    have hadd : (Op.stringOp .add s (strOfNums [b])).run Tryd.prog (w3.alloc (.cells #[.int .u8 b] 5)) = .ok (.string (s ++ strOfNums [b])) (w3.alloc (.cells #[.int .u8 b] 5)):=run_string_add_sum _ _ _ (by have:=HZ.out;have : (strOfNums [b]).size = 1:=strOfNums_size _;omega)
    obtain ⟨⟨⟨z0,z1,z2,z3,z4,z5,z6,z7,z8,z9,z10⟩,ga,gc⟩,hR2⟩ : ∃ r,readF (s ++ strOfNums [b]) = r:=⟨_,rfl⟩
    have hgc : gc ≠ 0:=append_bad HB0.out hb10 hR2
    have HR2:=Aside0.mk hR2
    have HBA:=Aside0.mk (HB3.out.trans ((below_alloc (Below.refl w3.heap.size w3) (.cells #[.int .u8 b] 5)).mono HB3.out.size))
    have hsz2 : (s ++ strOfNums [b]).size = s.size + 1:=by rw [ByteArray.size_append,strOfNums_size];rfl
    have HSZ:=Aside0.mk hsz2
    clear hR2 hsz2
    go_upto_region 9 with (go_at_call 29;refine (read_calls (GV_below HG.out HBA.out) (by have:=HZ.out;rw [HSZ.out];omega)).mono ?_;(try rw [hx3]);rw [HR2.out];rintro e w5 ⟨v,rfl,hrows,hb⟩;obtain ⟨v1,v2,v3,v4,v5,v6,v7,v8,v9,v10⟩:=v;obtain ⟨B1,m1,rfl⟩:=Kd.R_slice (CRows.r1 hrows);obtain ⟨B2,m2,rfl⟩:=Kd.R_slice (CRows.r2 hrows);obtain ⟨B3,m3,rfl⟩:=Kd.R_slice (CRows.r3 hrows);obtain ⟨B4,m4,rfl⟩:=Kd.R_slice (CRows.r4 hrows);obtain ⟨B5,m5,rfl⟩:=Kd.R_slice (CRows.r5 hrows);obtain ⟨B6,m6,rfl⟩:=Kd.R_slice (CRows.r6 hrows);obtain ⟨B7,m7,rfl⟩:=Kd.R_slice (CRows.r7 hrows);obtain ⟨B8,m8,rfl⟩:=Kd.R_slice (CRows.r8 hrows);obtain ⟨B9,m9,rfl⟩:=Kd.R_slice (CRows.r9 hrows);obtain ⟨B10,m10,rfl⟩:=Kd.R_slice (CRows.r10 hrows);have HB5:=Aside0.mk (HBA.out.trans (hb.mono HBA.out.size));dsimp only [cellsV];clear hrows hb)
    clear hcv hadd
    have hf:=blk_new (w5.alloc (.cells #[.int .i64 z0,.slice B1 z1.length m1,.slice B2 z2.length m2,.slice B3 z3.length m3,.slice B4 z4.length m4,.slice B5 z5.length m5,.slice B6 z6.length m6,.slice B7 z7.length m7,.slice B8 z8.length m8,.slice B9 z9.length m9,.slice B10 z10.length m10] 65)) (.cells #[.int .i64 ga,.int .i64 gc] 40)
    simp only [World.size_alloc] at hf
    have hbe : Below w5.heap.size w5 ((w5.alloc (.cells #[.int .i64 z0,.slice B1 z1.length m1,.slice B2 z2.length m2,.slice B3 z3.length m3,.slice B4 z4.length m4,.slice B5 z5.length m5,.slice B6 z6.length m6,.slice B7 z7.length m7,.slice B8 z8.length m8,.slice B9 z9.length m9,.slice B10 z10.length m10] 65)).alloc (.cells #[.int .i64 ga,.int .i64 gc] 40)):=below_alloc (below_alloc (Below.refl _ _) _) _
    have HB6:=Aside0.mk (HB5.out.trans (hbe.mono HB5.out.size))
    clear hbe
    generalize (w5.alloc (.cells #[.int .i64 z0,.slice B1 z1.length m1,.slice B2 z2.length m2,.slice B3 z3.length m3,.slice B4 z4.length m4,.slice B5 z5.length m5,.slice B6 z6.length m6,.slice B7 z7.length m7,.slice B8 z8.length m8,.slice B9 z9.length m9,.slice B10 z10.length m10] 65)).alloc (.cells #[.int .i64 ga,.int .i64 gc] 40) = w6 at hf HB6 ⊢
    generalize w5.heap.size = g5 at hf ⊢
    have HF6:=Aside0.mk hf
    clear hf
    obtain ⟨⟨⟨t0,t1,t2,t3,t4,t5,t6,t7,t8,t9,t10⟩,ha,hc⟩,hR3⟩ : ∃ r,readF (s.extract 0 (s.size - 1)) = r:=⟨_,rfl⟩
    have HLS:=Aside0.mk (less_bad hR3)
    have HR3:=Aside0.mk hR3
    clear hR3
    have hx0 : wrap64 ((s.size : Int) - 1) = (s.size : Int) - 1:=IntWalk.wrap64_in _ (by have:=HZ.out;omega)
    have hx1 : (0 : Int) ≤ (s.size : Int) - 1:=by have:=HZ.out;omega
    have hx2 : (s.size : Int) - 1 ≤ (s.size : Int):=by omega
    have hx3 : ((s.size : Int) - 1).toNat = s.size - 1:=by have:=HZ.out;omega
    go_upto_region 10 with (go_at_call 29;refine (read_calls (GV_below HG.out HB6.out) (by have:=HZ.out;rw [ByteArray.size_extract];omega)).mono ?_;(try rw [hx3]);rw [HR3.out];rintro e w7 ⟨v,rfl,hrows,hb⟩;obtain ⟨v1,v2,v3,v4,v5,v6,v7,v8,v9,v10⟩:=v;obtain ⟨C1,l1,rfl⟩:=Kd.R_slice (CRows.r1 hrows);obtain ⟨C2,l2,rfl⟩:=Kd.R_slice (CRows.r2 hrows);obtain ⟨C3,l3,rfl⟩:=Kd.R_slice (CRows.r3 hrows);obtain ⟨C4,l4,rfl⟩:=Kd.R_slice (CRows.r4 hrows);obtain ⟨C5,l5,rfl⟩:=Kd.R_slice (CRows.r5 hrows);obtain ⟨C6,l6,rfl⟩:=Kd.R_slice (CRows.r6 hrows);obtain ⟨C7,l7,rfl⟩:=Kd.R_slice (CRows.r7 hrows);obtain ⟨C8,l8,rfl⟩:=Kd.R_slice (CRows.r8 hrows);obtain ⟨C9,l9,rfl⟩:=Kd.R_slice (CRows.r9 hrows);obtain ⟨C10,l10,rfl⟩:=Kd.R_slice (CRows.r10 hrows);have HB7:=Aside0.mk (HB6.out.trans (hb.mono HB6.out.size));have HF7:=Aside0.mk ((hb.block _ (blk_lt HF6.out)).trans HF6.out);dsimp only [cellsV];clear hrows hb)
    have hf:=blk_new (w7.alloc (.cells #[.int .i64 t0,.slice C1 t1.length l1,.slice C2 t2.length l2,.slice C3 t3.length l3,.slice C4 t4.length l4,.slice C5 t5.length l5,.slice C6 t6.length l6,.slice C7 t7.length l7,.slice C8 t8.length l8,.slice C9 t9.length l9,.slice C10 t10.length l10] 65)) (.cells #[.int .i64 ha,.int .i64 hc] 40)
    simp only [World.size_alloc] at hf
    have hfa:=blk_alloc (blk_alloc HF7.out (.cells #[.int .i64 t0,.slice C1 t1.length l1,.slice C2 t2.length l2,.slice C3 t3.length l3,.slice C4 t4.length l4,.slice C5 t5.length l5,.slice C6 t6.length l6,.slice C7 t7.length l7,.slice C8 t8.length l8,.slice C9 t9.length l9,.slice C10 t10.length l10] 65)) (.cells #[.int .i64 ha,.int .i64 hc] 40)
    have hbe : Below w7.heap.size w7 ((w7.alloc (.cells #[.int .i64 t0,.slice C1 t1.length l1,.slice C2 t2.length l2,.slice C3 t3.length l3,.slice C4 t4.length l4,.slice C5 t5.length l5,.slice C6 t6.length l6,.slice C7 t7.length l7,.slice C8 t8.length l8,.slice C9 t9.length l9,.slice C10 t10.length l10] 65)).alloc (.cells #[.int .i64 ha,.int .i64 hc] 40)):=below_alloc (below_alloc (Below.refl _ _) _) _
    have HB8:=Aside0.mk (HB7.out.trans (hbe.mono HB7.out.size))
    clear hbe
    generalize (w7.alloc (.cells #[.int .i64 t0,.slice C1 t1.length l1,.slice C2 t2.length l2,.slice C3 t3.length l3,.slice C4 t4.length l4,.slice C5 t5.length l5,.slice C6 t6.length l6,.slice C7 t7.length l7,.slice C8 t8.length l8,.slice C9 t9.length l9,.slice C10 t10.length l10] 65)).alloc (.cells #[.int .i64 ha,.int .i64 hc] 40) = w8 at hf hfa HB8 ⊢
    generalize w7.heap.size = g7 at hf ⊢
    have g1 : w8.cell? ⟨g5 + 1,1,none⟩ = some (.int .i64 gc):=blk_cell hfa 1
    have h1 : w8.cell? ⟨g7 + 1,1,none⟩ = some (.int .i64 hc):=blk_cell hf 1
    clear hf hfa hx0 hx1 hx2 hx3
    have bg1 : (gc == 0) = false:=by simpa using hgc
    have bg2 : (gc != 0) = true:=by simpa using hgc
    by_cases hh : hc = 0
    · have HL2:=Aside0.mk (HLS.out.resolve_left (fun h => h hh))
      subst hh
      have dgt : decide (1 < (s.size : Int)) = true:=decide_eq_true (by have:=HL2.out.1;omega)
      have DW:=Aside0.mk (show wrap64 ((s.size : Int) - 2) = ((s.size - 2 : Nat) : Int) from (IntWalk.wrap64_in _ (by have:=HZ.out;omega)).trans (by have:=HL2.out.1;omega))
      have HBN:=Aside0.mk (show ∀ h : s.size - 2 < s.size,(s[s.size - 2]'h).toNat = 10 from fun h => by have h3:=(List.getElem?_eq_some_iff.1 HL2.out.2).2;rw [show s[s.size - 2] = 10 from h3];rfl)
      go_wp2
      all_goals (try (have hl_:=HL2.out.1;have dw_:=DW.out;exfalso;omega))
      go_ret
      exact ⟨by simp [DW.out,HBN.out],HB8.out⟩
    · have bh1 : (hc == 0) = false:=by simpa using hh
      have bh2 : (hc != 0) = true:=by simpa using hh
      clear hh HLS
      go_wp2
      go_ret
      exact ⟨by simp,HB8.out⟩
theorem one_calls {w : World} {s : ByteArray} {b : Int} (hG : GV w) (hs : s.size ≤ 140737488355328) (hb : 0 ≤ b ∧ b < 256) :
    Calls Tryd.prog 9 #[.string s,.int .u8 b] w fun e w' => e = .returned (.bool true) ∧ Below w.heap.size w w':=by
  have h:=right_law s
  obtain ⟨⟨x,fa,fc⟩,hr⟩ : ∃ r,readF s = r:=⟨_,rfl⟩
  rw [hr] at h
  rcases h with ⟨h1,_⟩|⟨h1,h2,_⟩
  · exact one_early hG hs hr (Or.inl h1)
  · dsimp only at h1 h2
    subst h1
    subst h2
    by_cases hz : 0 < s.size ∧ s.size < 262144
    · exact one_main hG hs hr hz hb
    · exact one_early hG hs hr (Or.inr ⟨rfl,rfl,by omega⟩)
end Go.Proofs.YtojepjkpnponoaaDoor.Asc
end
