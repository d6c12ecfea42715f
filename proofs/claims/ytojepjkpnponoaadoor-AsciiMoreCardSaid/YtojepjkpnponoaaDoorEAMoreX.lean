import Derived.Test.YtojepjkpnponoaaDoorEM36
import Derived.Test.YtojepjkpnponoaaDoorEM38
import Derived.Laws.Concat
namespace Go.Proofs.YtojepjkpnponoaaDoor.Asc
open Go Go.RowKit Go.Proofs.YtojepjkpnponoaaDoorW.PrintWords Go.Proofs.YtojepjkpnponoaaDoorW.PrintLast Go.Proofs.YtojepjkpnponoaaDoorW.PrintMore
set_option linter.unusedVariables false
set_option linter.unusedSimpArgs false
attribute [local go_sem high] eqA40
def cleanL (l : List UInt8) : List UInt8:=l.filter (fun b => b != 10)
def cleanI (l : List UInt8) : List Int:=(cleanL l).map fun b => (b.toNat : Int)
theorem cleanL_no (l : List UInt8) : (10 : UInt8) ∉ cleanL l:=by
  intro h
  have:=(List.mem_filter.1 h).2
  simp at this
theorem cleanL_len (l : List UInt8) : (cleanL l).length ≤ l.length:=List.length_filter_le _ _
theorem clean_str (l : List UInt8) : strOfNums (cleanI l) = ⟨(cleanL l).toArray⟩:=by
  unfold strOfNums cleanI
  congr 2
  rw [List.map_map]
  conv => rhs;rw [← List.map_id (cleanL l)]
  apply List.map_congr_left
  intro b _
  simp
theorem clean_snoc (l : List UInt8) (b : UInt8) : cleanI (l ++ [b]) = if b = 10 then cleanI l else cleanI l ++ [(b.toNat : Int)]:=by
  unfold cleanI cleanL
  rw [List.filter_append]
  by_cases h : b = 10
  · rw [if_pos h,h]
    simp
  · rw [if_neg h]
    simp [h]
theorem read_short {s : ByteArray} {x : S65} (h : readF s = (x,0,0)) : Short x:=by
  have hl:=right_law s
  rw [h] at hl
  rcases hl with hl|hl
  · exact absurd rfl hl.1
  · have h0:=hl.2.2.1
    apply sizes_short
    unfold lookF at h0
    by_cases hz : sizesF x ≠ 0
    · rw [if_pos hz] at h0
      exact absurd h0 hz
    · exact Decidable.not_not.1 hz
theorem big_short {c : S65} (h : Short c) : c.f1.length ≤ 9223372036854775806 ∧ c.f2.length ≤ 9223372036854775806 ∧ c.f3.length ≤ 9223372036854775806 ∧ c.f4.length ≤ 9223372036854775806 ∧ c.f5.length ≤ 9223372036854775806 ∧ c.f6.length ≤ 9223372036854775806 ∧ c.f7.length ≤ 9223372036854775806 ∧ c.f8.length ≤ 9223372036854775806 ∧ c.f9.length ≤ 9223372036854775806 ∧ c.f10.length ≤ 9223372036854775806:=by
  have:=h.l1;have:=h.l2;have:=h.l3;have:=h.l4;have:=h.l5;have:=h.l6;have:=h.l7;have:=h.l8;have:=h.l9;have:=h.l10
  omega
theorem info5' : (Tryd.prog.info? 5).map (fun i => (i.zero,i.size,i.bytes)) = some (some (.int .u8 0),1,1):=by kernel_rfl
theorem own0 (W : World) (base : Nat) (hb : base ≤ W.heap.size) : Kd.R (Kd.int .u8) 5 (W.alloc (.cells #[] 5)) base (fun _ => True) (.slice (some ⟨W.heap.size,0,none⟩) 0 0) [] :=
  Kd.R_of_own (own_lit W base 5 .u8 [] hb (by decide)) (fun _ _ => trivial)
set_option maxHeartbeats 4000000 in
set_option maxRecDepth 100000 in
theorem more_main {w : World} {s note : ByteArray} {x : S65} (hG : GV w) (hs : s.size ≤ 140737488355328) (hn : note.size ≤ 140737488355328) (hr : readF s = (x,0,0)) (h0 : s.size + note.size ≤ 262134 ∧ x.f10.length ≤ 1000) :
    Calls Tryd.prog 10 #[.string s,.string note] w fun e w' => e = .returned (.bool true) ∧ Below w.heap.size w w':=by
  obtain ⟨y0,y1,y2,y3,y4,y5,y6,y7,y8,y9,y10⟩:=x
  have HG:=Aside0.mk hG
  have HS:=Aside0.mk hs
  have HRF:=Aside0.mk hr
  have HZ:=Aside0.mk h0
  have HN:=Aside0.mk hn
  clear hG hs hr h0 hn
  go_enter Tryd.func10,Tryd.ntmps10
  go_upto_region 4 with (first|(go_at_call 25;refine (works_calls HG.out).mono ?_;rintro e w1 ⟨rfl,hb1⟩;have HB1:=Aside0.mk hb1;clear hb1)|(go_at_call 29;refine (read_calls (GV_below HG.out HB1.out) HS.out).mono ?_;rw [HRF.out];rintro e w2 ⟨v,rfl,hrows,hb⟩;obtain ⟨v1,v2,v3,v4,v5,v6,v7,v8,v9,v10⟩:=v;obtain ⟨A1,n1,rfl⟩:=Kd.R_slice (CRows.r1 hrows);obtain ⟨A2,n2,rfl⟩:=Kd.R_slice (CRows.r2 hrows);obtain ⟨A3,n3,rfl⟩:=Kd.R_slice (CRows.r3 hrows);obtain ⟨A4,n4,rfl⟩:=Kd.R_slice (CRows.r4 hrows);obtain ⟨A5,n5,rfl⟩:=Kd.R_slice (CRows.r5 hrows);obtain ⟨A6,n6,rfl⟩:=Kd.R_slice (CRows.r6 hrows);obtain ⟨A7,n7,rfl⟩:=Kd.R_slice (CRows.r7 hrows);obtain ⟨A8,n8,rfl⟩:=Kd.R_slice (CRows.r8 hrows);obtain ⟨A9,n9,rfl⟩:=Kd.R_slice (CRows.r9 hrows);obtain ⟨A10,n10,rfl⟩:=Kd.R_slice (CRows.r10 hrows);have HB2:=Aside0.mk (HB1.out.trans (hb.mono HB1.out.size));have HROW:=Aside0.mk hrows;dsimp only [cellsV];clear hrows hb))
  have hc:=blk_alloc (blk_new w2 (.cells #[.int .i64 y0,.slice A1 y1.length n1,.slice A2 y2.length n2,.slice A3 y3.length n3,.slice A4 y4.length n4,.slice A5 y5.length n5,.slice A6 y6.length n6,.slice A7 y7.length n7,.slice A8 y8.length n8,.slice A9 y9.length n9,.slice A10 y10.length n10] 65)) (.cells #[.int .i64 0,.int .i64 0] 40)
  have hf:=blk_new (w2.alloc (.cells #[.int .i64 y0,.slice A1 y1.length n1,.slice A2 y2.length n2,.slice A3 y3.length n3,.slice A4 y4.length n4,.slice A5 y5.length n5,.slice A6 y6.length n6,.slice A7 y7.length n7,.slice A8 y8.length n8,.slice A9 y9.length n9,.slice A10 y10.length n10] 65)) (.cells #[.int .i64 0,.int .i64 0] 40)
  simp only [World.size_alloc] at hf
  have hbe : Below w2.heap.size w2 ((w2.alloc (.cells #[.int .i64 y0,.slice A1 y1.length n1,.slice A2 y2.length n2,.slice A3 y3.length n3,.slice A4 y4.length n4,.slice A5 y5.length n5,.slice A6 y6.length n6,.slice A7 y7.length n7,.slice A8 y8.length n8,.slice A9 y9.length n9,.slice A10 y10.length n10] 65)).alloc (.cells #[.int .i64 0,.int .i64 0] 40)):=below_alloc (below_alloc (Below.refl _ _) _) _
  have HB3:=Aside0.mk (HB2.out.trans (hbe.mono HB2.out.size))
  have hrow:=HROW.out.below hbe
  clear hbe HROW
  generalize (w2.alloc (.cells #[.int .i64 y0,.slice A1 y1.length n1,.slice A2 y2.length n2,.slice A3 y3.length n3,.slice A4 y4.length n4,.slice A5 y5.length n5,.slice A6 y6.length n6,.slice A7 y7.length n7,.slice A8 y8.length n8,.slice A9 y9.length n9,.slice A10 y10.length n10] 65)).alloc (.cells #[.int .i64 0,.int .i64 0] 40) = w3 at hc hf hrow HB3 ⊢
  generalize w2.heap.size = g at hc hf ⊢
  have f0 : w3.cell? ⟨g + 1,0,none⟩ = some (.int .i64 0):=blk_cell hf 0
  have f1 : w3.cell? ⟨g + 1,1,none⟩ = some (.int .i64 0):=blk_cell hf 1
  have c10 : w3.cell? ⟨g,10,none⟩ = some (.slice A10 y10.length n10):=blk_cell hc 10
  have HC3:=Aside0.mk hc
  have HR3:=Aside0.mk hrow
  clear hc hf hrow
  have DW:=Aside0.mk (show wrap64 ((s.size : Int) + (note.size : Int)) = (s.size : Int) + (note.size : Int) from IntWalk.wrap64_in _ (by have:=HS.out;have:=HN.out;omega))
  have d1 : decide (262134 < wrap64 ((s.size : Int) + (note.size : Int))) = false:=decide_eq_false (by rw [DW.out];have:=HZ.out;omega)
  have d2 : decide (1000 < (y10.length : Int)) = false:=decide_eq_false (by have:=HZ.out.2;omega)
  go_upto_region 7 with (fail)
  clear f0 f1 c10 d1 d2 DW
  have HR4:=Aside0.mk (own0 w3 w3.heap.size (Nat.le_refl _))
  have HB4:=Aside0.mk (below_alloc (Below.refl w3.heap.size w3) (.cells #[] 5))
  generalize w3.alloc (.cells #[] 5) = w4 at HR4 HB4 ⊢
  generalize Value.slice (some ⟨w3.heap.size,0,none⟩) 0 0 = v4 at HR4 ⊢
  go_wp2
  (try simp only [Act.put,List.setIfInBounds_toArray,List.set_cons_zero,List.set_cons_succ])
  go_loopg [7,8] (note.size + 1) (fun kq v7 v8 w' => ∃ k : Nat,v8 = .int .i64 k ∧ Aside0 (k + kq = note.size + 1) ∧ Aside0 (k ≤ note.size) ∧ Aside0 (Kd.R (Kd.int .u8) 5 w' w3.heap.size (fun _ => True) v7 (cleanI (note.data.toList.take k))) ∧ Aside0 (Below w3.heap.size w3 w'))
  case atStart => exact ⟨0,rfl,⟨by omega⟩,⟨by omega⟩,HR4,HB4⟩
  case round =>
    clear HR4 HB4
    obtain ⟨k,rfl,HK,HKN,HRW,HBW⟩:=hrel
    by_cases ck : k < note.size
    · obtain ⟨g1,rfl⟩ : ∃ g1,gk = g1 + 1:=by
        cases gk with
        | zero => have:=HK.out;omega
        | succ g1 => exact ⟨g1,rfl⟩
      have ckb : decide ((k : Int) < (note.size : Int)) = true:=decide_eq_true (by omega)
      have ci0 : (0 : Int) ≤ (k : Int):=by omega
      have ci1 : (k : Int) < (note.size : Int):=by omega
      have hwi : IntKind.i64.wrap ((k : Int) + 1) = ((k + 1 : Nat) : Int):=by have:=HN.out;rw [IntKind.wrap_i64];omega
      have HTK:=Aside0.mk (show note.data.toList.take (k + 1) = note.data.toList.take k ++ [note[k]'ck] from List.take_succ_eq_append_getElem (by rw [data_length];exact ck))
      have HLN:=Aside0.mk (show (cleanI (note.data.toList.take k)).length ≤ note.size by
        unfold cleanI
        rw [List.length_map]
        have h1:=cleanL_len (note.data.toList.take k)
        rw [List.length_take,data_length] at h1
        omega)
      by_cases h10 : (note[k]'ck).toNat = 10
      · have HR5:=Aside0.mk (show Kd.R (Kd.int .u8) 5 wr w3.heap.size (fun _ => True) _ (cleanI (note.data.toList.take (k + 1))) by
          rw [HTK.out,clean_snoc,if_pos (UInt8.toNat_inj.1 (by rw [h10];rfl))]
          exact HRW.out)
        go_wp2
        go_roundg g1
        case measure => omega
        case rel => exact ⟨k + 1,by push_cast;rfl,⟨by have:=HK.out;omega⟩,⟨by omega⟩,HR5,HBW⟩
      · have h10b : ((((note[k]'ck).toNat : Nat) : Int) == 10) = false:=beq_eq_false_iff_ne.2 (by omega)
        have h10c : ((((note[k]'ck).toNat : Nat) : Int) != 10) = true:=bne_iff_ne.2 (by omega)
        go_wp2_with (first|(at_builtin;refine Kd.R_append (Kd.int .u8) (w0:=w3) w3.heap.size rfl (.tmp 47) (.tmp 51) 70 5 (.int .u8 0) 1 rfl Tryd.underlying70 info5' rfl (by decide) (by decide) _ (cleanI (note.data.toList.take k)) ((note[k]'ck).toNat : Int) [.int .u8 ((note[k]'ck).toNat : Int)] (fun _ => True) (fun _ => False) rfl rfl rfl (fun _ h => h.elim) (fun _ _ => trivial) HRW.out HBW.out (below_size HBW.out) (by have:=HLN.out;have:=HZ.out;omega) ?_;intro v5 w5 hr5 hb5 hg5 hat5)|go_in)
        have HR5:=Aside0.mk (show Kd.R (Kd.int .u8) 5 w5 w3.heap.size (fun _ => True) v5 (cleanI (note.data.toList.take (k + 1))) by
          rw [HTK.out,clean_snoc,if_neg (fun e => h10 (by rw [e];rfl))]
          exact hr5)
        have HB5:=Aside0.mk hb5
        clear hr5 hb5 hg5 hat5
        go_roundg g1
        case measure => omega
        case rel => exact ⟨k + 1,by push_cast;rfl,⟨by have:=HK.out;omega⟩,⟨by omega⟩,HR5,HB5⟩
    · have hkn : k = note.size:=by have:=HKN.out;omega
      subst hkn
      have ckb : decide ((note.size : Int) < (note.size : Int)) = false:=decide_eq_false (by omega)
      clear ck HK HKN
      have hta : note.data.toList.take note.size = note.data.toList:=List.take_of_length_le (by rw [data_length];exact Nat.le_refl _)
      have hrw:=HRW.out
      rw [hta] at hrw
      clear HRW hta
      have HRW:=Aside0.mk hrw
      obtain ⟨A11,n11,rfl⟩:=Kd.R_slice HRW.out
      clear hrw
      have hcv:=Kd.C_string (P:=Tryd.prog) (c:=n11) Tryd.underlying70 Tryd.underlying5 Tryd.underlying9 (Kd.R_reads' HRW.out).2.2
      have HBV:=Aside0.mk (HB3.out.trans (HBW.out.mono HB3.out.size))
      have HC4:=Aside0.mk ((HBW.out.block _ (blk_lt HC3.out)).trans HC3.out)
      have HR4:=Aside0.mk (HR3.out.below HBW.out)
      have HCLN:=Aside0.mk (show (cleanL note.data.toList).length ≤ note.size by have:=cleanL_len note.data.toList;rw [data_length] at this;exact this)
      clear HC3 HR3 HBW
      cases hN : notedF s with
      | true =>
        have HT:=Aside0.mk (show App s ((s ++ strOfNums (cleanI note.data.toList)) ++ ⟨#[10]⟩) (if notedF s = true then cleanL note.data.toList ++ [10] else 99 :: 10 :: (cleanL note.data.toList ++ [10])) by
          unfold App
          rw [hN,if_pos rfl,clean_str,ByteArray.data_append,Array.toList_append,ByteArray.data_append,Array.toList_append]
          simp)
        have hts : ((s ++ strOfNums (cleanI note.data.toList)) ++ (⟨#[10]⟩ : ByteArray)).size = s.size + (cleanL note.data.toList).length + 1:=by
          have h1:=HT.out.size
          rw [hN,if_pos rfl] at h1
          simp only [List.length_append,List.length_cons,List.length_nil] at h1
          omega
        have HTS:=Aside0.mk hts
        have HR2:=Aside0.mk (more_read HRF.out (by have:=HZ.out;have:=HCLN.out;omega) HZ.out.2 (cleanL_no _) HT.out)
        clear hts
        have hsz1 : (strOfNums (cleanI note.data.toList)).size = (cleanL note.data.toList).length:=by rw [strOfNums_size];simp [cleanI]
        have hms : s.size = s.size:=rfl
        have hadd1 : (Op.stringOp .add s (strOfNums (cleanI note.data.toList))).run Tryd.prog wr = .ok (.string (s ++ strOfNums (cleanI note.data.toList))) wr:=run_string_add_sum _ _ _ (by have:=HZ.out;have:=HCLN.out;omega)
        have hadd2 : (Op.stringOp .add (s ++ strOfNums (cleanI note.data.toList)) ⟨#[10]⟩).run Tryd.prog wr = .ok (.string ((s ++ strOfNums (cleanI note.data.toList)) ++ ⟨#[10]⟩)) wr:=run_string_add_sum _ _ _ (by have h3 : (s ++ strOfNums (cleanI note.data.toList)).size = s.size + (strOfNums (cleanI note.data.toList)).size:=ByteArray.size_append .. ;have:=HZ.out;have:=HCLN.out;have : (⟨#[10]⟩ : ByteArray).size = 1:=rfl;omega)
        have HM1:=Aside0.mk hsz1
        clear hms hsz1
        rw [← clean_str] at HR2
        go_upto_region 15 with (go_at_call 31;refine (noted_calls HS.out).mono ?_;rw [hN];rintro e w' ⟨rfl,rfl⟩)
        go_upto_region 16 with (go_at_call 29;refine (read_calls (GV_below HG.out HBV.out) (by rw [HTS.out];have:=HZ.out;have:=HCLN.out;omega)).mono ?_;rw [HR2.out];rintro e w5 ⟨v,rfl,hrows,hb⟩;obtain ⟨v1,v2,v3,v4,v5,v6,v7,v8,v9,v10⟩:=v;obtain ⟨B1,m1,rfl⟩:=Kd.R_slice (CRows.r1 hrows);obtain ⟨B2,m2,rfl⟩:=Kd.R_slice (CRows.r2 hrows);obtain ⟨B3,m3,rfl⟩:=Kd.R_slice (CRows.r3 hrows);obtain ⟨B4,m4,rfl⟩:=Kd.R_slice (CRows.r4 hrows);obtain ⟨B5,m5,rfl⟩:=Kd.R_slice (CRows.r5 hrows);obtain ⟨B6,m6,rfl⟩:=Kd.R_slice (CRows.r6 hrows);obtain ⟨B7,m7,rfl⟩:=Kd.R_slice (CRows.r7 hrows);obtain ⟨B8,m8,rfl⟩:=Kd.R_slice (CRows.r8 hrows);obtain ⟨B9,m9,rfl⟩:=Kd.R_slice (CRows.r9 hrows);obtain ⟨B10,m10,rfl⟩:=Kd.R_slice (CRows.r10 hrows);simp only [List.length_append,List.length_singleton] at hrows;have HROW5:=Aside0.mk hrows;have HB5:=Aside0.mk (HBV.out.trans (hb.mono HBV.out.size));have HLE5:=Aside0.mk hb.size;have HC5:=Aside0.mk ((hb.block _ (blk_lt HC4.out)).trans HC4.out);have HR5:=Aside0.mk (HR4.out.below hb);have HRW5:=Aside0.mk (Kd.R_below HRW.out hb);dsimp only [cellsV];simp only [List.length_append,List.length_singleton];clear hrows hb)
        have hf:=blk_new (w5.alloc (.cells #[.int .i64 y0,.slice B1 y1.length m1,.slice B2 y2.length m2,.slice B3 y3.length m3,.slice B4 y4.length m4,.slice B5 y5.length m5,.slice B6 y6.length m6,.slice B7 y7.length m7,.slice B8 y8.length m8,.slice B9 y9.length m9,.slice B10 (y10.length + 1) m10] 65)) (.cells #[.int .i64 0,.int .i64 0] 40)
        have hd:=blk_alloc (blk_new w5 (.cells #[.int .i64 y0,.slice B1 y1.length m1,.slice B2 y2.length m2,.slice B3 y3.length m3,.slice B4 y4.length m4,.slice B5 y5.length m5,.slice B6 y6.length m6,.slice B7 y7.length m7,.slice B8 y8.length m8,.slice B9 y9.length m9,.slice B10 (y10.length + 1) m10] 65)) (.cells #[.int .i64 0,.int .i64 0] 40)
        have hc:=blk_alloc (blk_alloc HC5.out (.cells #[.int .i64 y0,.slice B1 y1.length m1,.slice B2 y2.length m2,.slice B3 y3.length m3,.slice B4 y4.length m4,.slice B5 y5.length m5,.slice B6 y6.length m6,.slice B7 y7.length m7,.slice B8 y8.length m8,.slice B9 y9.length m9,.slice B10 (y10.length + 1) m10] 65)) (.cells #[.int .i64 0,.int .i64 0] 40)
        simp only [World.size_alloc] at hf
        have hbe : Below w5.heap.size w5 ((w5.alloc (.cells #[.int .i64 y0,.slice B1 y1.length m1,.slice B2 y2.length m2,.slice B3 y3.length m3,.slice B4 y4.length m4,.slice B5 y5.length m5,.slice B6 y6.length m6,.slice B7 y7.length m7,.slice B8 y8.length m8,.slice B9 y9.length m9,.slice B10 (y10.length + 1) m10] 65)).alloc (.cells #[.int .i64 0,.int .i64 0] 40)):=below_alloc (below_alloc (Below.refl _ _) _) _
        have HB6:=Aside0.mk (HB5.out.trans (hbe.mono HB5.out.size))
        have HR6:=Aside0.mk (HR5.out.below hbe)
        have HD6:=Aside0.mk (HROW5.out.below hbe)
        have HRW6:=Aside0.mk (Kd.R_below HRW5.out hbe)
        clear hbe HB5 HR5 HROW5 HRW5 HC5
        generalize (w5.alloc (.cells #[.int .i64 y0,.slice B1 y1.length m1,.slice B2 y2.length m2,.slice B3 y3.length m3,.slice B4 y4.length m4,.slice B5 y5.length m5,.slice B6 y6.length m6,.slice B7 y7.length m7,.slice B8 y8.length m8,.slice B9 y9.length m9,.slice B10 (y10.length + 1) m10] 65)).alloc (.cells #[.int .i64 0,.int .i64 0] 40) = w6 at hf hd hc HB6 HR6 HD6 HRW6 ⊢
        generalize hg5 : w5.heap.size = g5 at hf hd ⊢
        have HGB:=Aside0.mk (show w.heap.size ≤ g5 by rw [← hg5];exact Nat.le_trans HBV.out.size HLE5.out)
        have HNE:=Aside0.mk (show g ≠ g5 by rw [← hg5];exact Nat.ne_of_lt (Nat.lt_of_lt_of_le (blk_lt HC4.out) HLE5.out))
        have HC6:=Aside0.mk hc
        have HDB:=Aside0.mk hd
        have f0 : w6.cell? ⟨g5 + 1,0,none⟩ = some (.int .i64 0):=blk_cell hf 0
        have f1 : w6.cell? ⟨g5 + 1,1,none⟩ = some (.int .i64 0):=blk_cell hf 1
        have c10 : w6.cell? ⟨g,10,none⟩ = some (.slice A10 y10.length n10):=blk_cell hc 10
        have d10 : w6.cell? ⟨g5,10,none⟩ = some (.slice B10 (y10.length + 1) m10):=blk_cell hd 10
        clear hc hd hf hg5
        have hr10:=(Kd.R_reads' HD6.out.r10).2.2
        simp only [List.length_append,List.length_singleton] at hr10
        have p1 : 0 ≤ (y10.length : Int):=by omega
        have q1 : (y10.length : Int) < (y10.length : Int) + 1:=by omega
        obtain ⟨ad,e1,h1⟩:=Kd.at_string hr10 (y10.length : Int) p1 (by push_cast;omega)
        cases e1
        have hrd : rdOf ByteArray.empty (y10 ++ [strOfNums (cleanI note.data.toList)]) (y10.length : Int) = strOfNums (cleanI note.data.toList):=by simp [rdOf]
        rw [hrd,Int.toNat_natCast] at h1
        have hcv6 : ∀ n,(convert 70 9 (.slice A11 (cleanI note.data.toList).length n11)).run Tryd.prog (w6.drewN n) = .ok (.string (strOfNums (cleanI note.data.toList))) (w6.drewN n):=fun n => Kd.C_string (P:=Tryd.prog) (c:=n11) Tryd.underlying70 Tryd.underlying5 Tryd.underlying9 (Kd.R_reads' (Kd.R_drewN HRW6.out n)).2.2
        have e2 : ((y10.length : Int) + 1 == wrap64 ((y10.length : Int) + 1)) = true:=by rw [IntWalk.wrap64_in _ (by have:=HZ.out.2;omega)];exact beq_self_eq_true _
        have e3 : ((y10.length : Int) + 1 != wrap64 ((y10.length : Int) + 1)) = false:=by rw [IntWalk.wrap64_in _ (by have:=HZ.out.2;omega)];exact bne_self_eq_false _
        clear hrd hr10 hcv hadd1 hadd2 HT HTS HR2 HM1 HRW6 HRW HC4 HR4 HBV
        have HDR:=HD6
        clear HD6
        generalize hS : strOfNums (cleanI note.data.toList) = S at h1 hcv6 HDR ⊢
        generalize (cleanI note.data.toList).length = cl at hcv6 ⊢
        have z10 : w6.frozen? ⟨g5,10,none⟩ = false:=blk_frozen HDB.out 10
        go_quiet (fail)
        go_upto_region 19 with (fail)
        clear f0 f1 c10 d10 z10 h1 hcv6 e2 e3 p1 q1
        have HB7:=Aside0.mk (below_set (g:=g5) (j:=10) (v:=.slice A10 y10.length n10) (pw_below_drewN HB6.out nq) HGB.out)
        have hc7 : ((w6.drewN nq).setCell ⟨g5,10,none⟩ (.slice A10 y10.length n10)).heap[g]? = _:=blk_far (blk_drewN HC6.out nq) (p:=⟨g5,10,none⟩) HNE.out _
        have hd7 : ((w6.drewN nq).setCell ⟨g5,10,none⟩ (.slice A10 y10.length n10)).heap[g5]? = some (.cells #[.int .i64 y0,.slice B1 y1.length m1,.slice B2 y2.length m2,.slice B3 y3.length m3,.slice B4 y4.length m4,.slice B5 y5.length m5,.slice B6 y6.length m6,.slice B7 y7.length m7,.slice B8 y8.length m8,.slice B9 y9.length m9,.slice A10 y10.length n10] 65 (0,0)):=blk_put (blk_drewN HDB.out nq) 10 _ rfl
        have HR7:=Aside0.mk ((HR6.out.below (pw_below_drewN (Below.refl _ _) nq)).set (blk_drewN HDB.out nq) sub65 10 (.slice A10 y10.length n10))
        have HD7:=Aside0.mk ((HDR.out.below (pw_below_drewN (Below.refl _ _) nq)).set (blk_drewN HDB.out nq) sub65 10 (.slice A10 y10.length n10))
        clear HB6 HR6 HDR HC6 HDB
        generalize (w6.drewN nq).setCell ⟨g5,10,none⟩ (.slice A10 y10.length n10) = w7 at hc7 hd7 HB7 HR7 HD7 ⊢
        have HCA:=Aside0.mk (show CR w7 ⟨y0,y1,y2,y3,y4,y5,y6,y7,y8,y9,y10⟩ ⟨A1,A2,A3,A4,A5,A6,A7,A8,A9,A10,n1,n2,n3,n4,n5,n6,n7,n8,n9,n10⟩ from ⟨(Kd.R_reads' HR7.out.r1).2.2,(Kd.R_reads' HR7.out.r2).2.2,(Kd.R_reads' HR7.out.r3).2.2,(Kd.R_reads' HR7.out.r4).2.2,(Kd.R_reads' HR7.out.r5).2.2,(Kd.R_reads' HR7.out.r6).2.2,(Kd.R_reads' HR7.out.r7).2.2,(Kd.R_reads' HR7.out.r8).2.2,(Kd.R_reads' HR7.out.r9).2.2,(Kd.R_reads' HR7.out.r10).2.2⟩)
        have HCB:=Aside0.mk (show CR w7 ⟨y0,y1,y2,y3,y4,y5,y6,y7,y8,y9,y10⟩ ⟨B1,B2,B3,B4,B5,B6,B7,B8,B9,A10,m1,m2,m3,m4,m5,m6,m7,m8,m9,n10⟩ from ⟨(Kd.R_reads' HD7.out.r1).2.2,(Kd.R_reads' HD7.out.r2).2.2,(Kd.R_reads' HD7.out.r3).2.2,(Kd.R_reads' HD7.out.r4).2.2,(Kd.R_reads' HD7.out.r5).2.2,(Kd.R_reads' HD7.out.r6).2.2,(Kd.R_reads' HD7.out.r7).2.2,(Kd.R_reads' HD7.out.r8).2.2,(Kd.R_reads' HD7.out.r9).2.2,(Kd.R_reads' HR7.out.r10).2.2⟩)
        clear HR7 HD7
        have c0 : w7.cell? ⟨g,0,none⟩ = some (.int .i64 y0):=blk_cell hc7 0
        have d0 : w7.cell? ⟨g5,0,none⟩ = some (.int .i64 y0):=blk_cell hd7 0
        have c1 : w7.cell? ⟨g,1,none⟩ = some (.slice A1 y1.length n1):=blk_cell hc7 1
        have d1 : w7.cell? ⟨g5,1,none⟩ = some (.slice B1 y1.length m1):=blk_cell hd7 1
        have c2 : w7.cell? ⟨g,2,none⟩ = some (.slice A2 y2.length n2):=blk_cell hc7 2
        have d2 : w7.cell? ⟨g5,2,none⟩ = some (.slice B2 y2.length m2):=blk_cell hd7 2
        have c3 : w7.cell? ⟨g,3,none⟩ = some (.slice A3 y3.length n3):=blk_cell hc7 3
        have d3 : w7.cell? ⟨g5,3,none⟩ = some (.slice B3 y3.length m3):=blk_cell hd7 3
        have c4 : w7.cell? ⟨g,4,none⟩ = some (.slice A4 y4.length n4):=blk_cell hc7 4
        have d4 : w7.cell? ⟨g5,4,none⟩ = some (.slice B4 y4.length m4):=blk_cell hd7 4
        have c5 : w7.cell? ⟨g,5,none⟩ = some (.slice A5 y5.length n5):=blk_cell hc7 5
        have d5 : w7.cell? ⟨g5,5,none⟩ = some (.slice B5 y5.length m5):=blk_cell hd7 5
        have c6 : w7.cell? ⟨g,6,none⟩ = some (.slice A6 y6.length n6):=blk_cell hc7 6
        have d6 : w7.cell? ⟨g5,6,none⟩ = some (.slice B6 y6.length m6):=blk_cell hd7 6
        have c7 : w7.cell? ⟨g,7,none⟩ = some (.slice A7 y7.length n7):=blk_cell hc7 7
        have d7 : w7.cell? ⟨g5,7,none⟩ = some (.slice B7 y7.length m7):=blk_cell hd7 7
        have c8 : w7.cell? ⟨g,8,none⟩ = some (.slice A8 y8.length n8):=blk_cell hc7 8
        have d8 : w7.cell? ⟨g5,8,none⟩ = some (.slice B8 y8.length m8):=blk_cell hd7 8
        have c9 : w7.cell? ⟨g,9,none⟩ = some (.slice A9 y9.length n9):=blk_cell hc7 9
        have d9 : w7.cell? ⟨g5,9,none⟩ = some (.slice B9 y9.length m9):=blk_cell hd7 9
        have c10 : w7.cell? ⟨g,10,none⟩ = some (.slice A10 y10.length n10):=blk_cell hc7 10
        have d10 : w7.cell? ⟨g5,10,none⟩ = some (.slice A10 y10.length n10):=blk_cell hd7 10
        clear hc7 hd7
        have HSH:=Aside0.mk (read_short HRF.out)
        have HFT:=Aside0.mk (readF_fits HRF.out).2.1
        go_wp2_with (go_at_call 32;refine (same_calls HCA.out HCB.out (big_short HSH.out) (fun r hr => by have:=HFT.out r hr;omega)).mono ?_;rintro e w8 ⟨rfl,hb⟩;have HB8:=Aside0.mk (HB7.out.trans (hb.mono HB7.out.size));clear hb)
        go_ret
        exact ⟨by simp,HB8.out⟩
      | false =>
        have HT:=Aside0.mk (show App s (((s ++ ⟨#[99,10]⟩) ++ strOfNums (cleanI note.data.toList)) ++ ⟨#[10]⟩) (if notedF s = true then cleanL note.data.toList ++ [10] else 99 :: 10 :: (cleanL note.data.toList ++ [10])) by
          unfold App
          rw [hN,if_neg Bool.noConfusion,clean_str,ByteArray.data_append,Array.toList_append,ByteArray.data_append,Array.toList_append,ByteArray.data_append,Array.toList_append]
          simp)
        have hts : (((s ++ ⟨#[99,10]⟩) ++ strOfNums (cleanI note.data.toList)) ++ (⟨#[10]⟩ : ByteArray)).size = s.size + (cleanL note.data.toList).length + 3:=by
          have h1:=HT.out.size
          rw [hN,if_neg Bool.noConfusion] at h1
          simp only [List.length_append,List.length_cons,List.length_nil] at h1
          omega
        have HTS:=Aside0.mk hts
        have HR2:=Aside0.mk (more_read HRF.out (by have:=HZ.out;have:=HCLN.out;omega) HZ.out.2 (cleanL_no _) HT.out)
        clear hts
        have hsz1 : (strOfNums (cleanI note.data.toList)).size = (cleanL note.data.toList).length:=by rw [strOfNums_size];simp [cleanI]
        have hadd0 : (Op.stringOp .add s ⟨#[99,10]⟩).run Tryd.prog wr = .ok (.string (s ++ ⟨#[99,10]⟩)) wr:=run_string_add_sum _ _ _ (by have:=HZ.out;have : (⟨#[99,10]⟩ : ByteArray).size = 2:=rfl;omega)
        have hms : (s ++ (⟨#[99,10]⟩ : ByteArray)).size = s.size + 2:=by rw [ByteArray.size_append];rfl
        have hadd1 : (Op.stringOp .add (s ++ ⟨#[99,10]⟩) (strOfNums (cleanI note.data.toList))).run Tryd.prog wr = .ok (.string ((s ++ ⟨#[99,10]⟩) ++ strOfNums (cleanI note.data.toList))) wr:=run_string_add_sum _ _ _ (by have:=HZ.out;have:=HCLN.out;omega)
        have hadd2 : (Op.stringOp .add ((s ++ ⟨#[99,10]⟩) ++ strOfNums (cleanI note.data.toList)) ⟨#[10]⟩).run Tryd.prog wr = .ok (.string (((s ++ ⟨#[99,10]⟩) ++ strOfNums (cleanI note.data.toList)) ++ ⟨#[10]⟩)) wr:=run_string_add_sum _ _ _ (by have h3 : ((s ++ ⟨#[99,10]⟩) ++ strOfNums (cleanI note.data.toList)).size = (s ++ ⟨#[99,10]⟩).size + (strOfNums (cleanI note.data.toList)).size:=ByteArray.size_append .. ;have:=HZ.out;have:=HCLN.out;have : (⟨#[10]⟩ : ByteArray).size = 1:=rfl;omega)
        have HM1:=Aside0.mk hsz1
        clear hms hsz1
        rw [← clean_str] at HR2
        go_upto_region 15 with (go_at_call 31;refine (noted_calls HS.out).mono ?_;rw [hN];rintro e w' ⟨rfl,rfl⟩)
        go_upto_region 16 with (go_at_call 29;refine (read_calls (GV_below HG.out HBV.out) (by rw [HTS.out];have:=HZ.out;have:=HCLN.out;omega)).mono ?_;rw [HR2.out];rintro e w5 ⟨v,rfl,hrows,hb⟩;obtain ⟨v1,v2,v3,v4,v5,v6,v7,v8,v9,v10⟩:=v;obtain ⟨B1,m1,rfl⟩:=Kd.R_slice (CRows.r1 hrows);obtain ⟨B2,m2,rfl⟩:=Kd.R_slice (CRows.r2 hrows);obtain ⟨B3,m3,rfl⟩:=Kd.R_slice (CRows.r3 hrows);obtain ⟨B4,m4,rfl⟩:=Kd.R_slice (CRows.r4 hrows);obtain ⟨B5,m5,rfl⟩:=Kd.R_slice (CRows.r5 hrows);obtain ⟨B6,m6,rfl⟩:=Kd.R_slice (CRows.r6 hrows);obtain ⟨B7,m7,rfl⟩:=Kd.R_slice (CRows.r7 hrows);obtain ⟨B8,m8,rfl⟩:=Kd.R_slice (CRows.r8 hrows);obtain ⟨B9,m9,rfl⟩:=Kd.R_slice (CRows.r9 hrows);obtain ⟨B10,m10,rfl⟩:=Kd.R_slice (CRows.r10 hrows);simp only [List.length_append,List.length_singleton] at hrows;have HROW5:=Aside0.mk hrows;have HB5:=Aside0.mk (HBV.out.trans (hb.mono HBV.out.size));have HLE5:=Aside0.mk hb.size;have HC5:=Aside0.mk ((hb.block _ (blk_lt HC4.out)).trans HC4.out);have HR5:=Aside0.mk (HR4.out.below hb);have HRW5:=Aside0.mk (Kd.R_below HRW.out hb);dsimp only [cellsV];simp only [List.length_append,List.length_singleton];clear hrows hb)
        have hf:=blk_new (w5.alloc (.cells #[.int .i64 y0,.slice B1 y1.length m1,.slice B2 y2.length m2,.slice B3 y3.length m3,.slice B4 y4.length m4,.slice B5 y5.length m5,.slice B6 y6.length m6,.slice B7 y7.length m7,.slice B8 y8.length m8,.slice B9 y9.length m9,.slice B10 (y10.length + 1) m10] 65)) (.cells #[.int .i64 0,.int .i64 0] 40)
        have hd:=blk_alloc (blk_new w5 (.cells #[.int .i64 y0,.slice B1 y1.length m1,.slice B2 y2.length m2,.slice B3 y3.length m3,.slice B4 y4.length m4,.slice B5 y5.length m5,.slice B6 y6.length m6,.slice B7 y7.length m7,.slice B8 y8.length m8,.slice B9 y9.length m9,.slice B10 (y10.length + 1) m10] 65)) (.cells #[.int .i64 0,.int .i64 0] 40)
        have hc:=blk_alloc (blk_alloc HC5.out (.cells #[.int .i64 y0,.slice B1 y1.length m1,.slice B2 y2.length m2,.slice B3 y3.length m3,.slice B4 y4.length m4,.slice B5 y5.length m5,.slice B6 y6.length m6,.slice B7 y7.length m7,.slice B8 y8.length m8,.slice B9 y9.length m9,.slice B10 (y10.length + 1) m10] 65)) (.cells #[.int .i64 0,.int .i64 0] 40)
        simp only [World.size_alloc] at hf
        have hbe : Below w5.heap.size w5 ((w5.alloc (.cells #[.int .i64 y0,.slice B1 y1.length m1,.slice B2 y2.length m2,.slice B3 y3.length m3,.slice B4 y4.length m4,.slice B5 y5.length m5,.slice B6 y6.length m6,.slice B7 y7.length m7,.slice B8 y8.length m8,.slice B9 y9.length m9,.slice B10 (y10.length + 1) m10] 65)).alloc (.cells #[.int .i64 0,.int .i64 0] 40)):=below_alloc (below_alloc (Below.refl _ _) _) _
        have HB6:=Aside0.mk (HB5.out.trans (hbe.mono HB5.out.size))
        have HR6:=Aside0.mk (HR5.out.below hbe)
        have HD6:=Aside0.mk (HROW5.out.below hbe)
        have HRW6:=Aside0.mk (Kd.R_below HRW5.out hbe)
        clear hbe HB5 HR5 HROW5 HRW5 HC5
        generalize (w5.alloc (.cells #[.int .i64 y0,.slice B1 y1.length m1,.slice B2 y2.length m2,.slice B3 y3.length m3,.slice B4 y4.length m4,.slice B5 y5.length m5,.slice B6 y6.length m6,.slice B7 y7.length m7,.slice B8 y8.length m8,.slice B9 y9.length m9,.slice B10 (y10.length + 1) m10] 65)).alloc (.cells #[.int .i64 0,.int .i64 0] 40) = w6 at hf hd hc HB6 HR6 HD6 HRW6 ⊢
        generalize hg5 : w5.heap.size = g5 at hf hd ⊢
        have HGB:=Aside0.mk (show w.heap.size ≤ g5 by rw [← hg5];exact Nat.le_trans HBV.out.size HLE5.out)
        have HNE:=Aside0.mk (show g ≠ g5 by rw [← hg5];exact Nat.ne_of_lt (Nat.lt_of_lt_of_le (blk_lt HC4.out) HLE5.out))
        have HC6:=Aside0.mk hc
        have HDB:=Aside0.mk hd
        have f0 : w6.cell? ⟨g5 + 1,0,none⟩ = some (.int .i64 0):=blk_cell hf 0
        have f1 : w6.cell? ⟨g5 + 1,1,none⟩ = some (.int .i64 0):=blk_cell hf 1
        have c10 : w6.cell? ⟨g,10,none⟩ = some (.slice A10 y10.length n10):=blk_cell hc 10
        have d10 : w6.cell? ⟨g5,10,none⟩ = some (.slice B10 (y10.length + 1) m10):=blk_cell hd 10
        clear hc hd hf hg5
        have hr10:=(Kd.R_reads' HD6.out.r10).2.2
        simp only [List.length_append,List.length_singleton] at hr10
        have p1 : 0 ≤ (y10.length : Int):=by omega
        have q1 : (y10.length : Int) < (y10.length : Int) + 1:=by omega
        obtain ⟨ad,e1,h1⟩:=Kd.at_string hr10 (y10.length : Int) p1 (by push_cast;omega)
        cases e1
        have hrd : rdOf ByteArray.empty (y10 ++ [strOfNums (cleanI note.data.toList)]) (y10.length : Int) = strOfNums (cleanI note.data.toList):=by simp [rdOf]
        rw [hrd,Int.toNat_natCast] at h1
        have hcv6 : ∀ n,(convert 70 9 (.slice A11 (cleanI note.data.toList).length n11)).run Tryd.prog (w6.drewN n) = .ok (.string (strOfNums (cleanI note.data.toList))) (w6.drewN n):=fun n => Kd.C_string (P:=Tryd.prog) (c:=n11) Tryd.underlying70 Tryd.underlying5 Tryd.underlying9 (Kd.R_reads' (Kd.R_drewN HRW6.out n)).2.2
        have e2 : ((y10.length : Int) + 1 == wrap64 ((y10.length : Int) + 1)) = true:=by rw [IntWalk.wrap64_in _ (by have:=HZ.out.2;omega)];exact beq_self_eq_true _
        have e3 : ((y10.length : Int) + 1 != wrap64 ((y10.length : Int) + 1)) = false:=by rw [IntWalk.wrap64_in _ (by have:=HZ.out.2;omega)];exact bne_self_eq_false _
        clear hrd hr10 hcv hadd1 hadd2 HT HTS HR2 HM1 HRW6 HRW HC4 HR4 HBV
        have HDR:=HD6
        clear HD6
        generalize hS : strOfNums (cleanI note.data.toList) = S at h1 hcv6 HDR ⊢
        generalize (cleanI note.data.toList).length = cl at hcv6 ⊢
        have z10 : w6.frozen? ⟨g5,10,none⟩ = false:=blk_frozen HDB.out 10
        go_quiet (fail)
        go_upto_region 19 with (fail)
        clear f0 f1 c10 d10 z10 h1 hcv6 e2 e3 p1 q1
        have HB7:=Aside0.mk (below_set (g:=g5) (j:=10) (v:=.slice A10 y10.length n10) (pw_below_drewN HB6.out nq) HGB.out)
        have hc7 : ((w6.drewN nq).setCell ⟨g5,10,none⟩ (.slice A10 y10.length n10)).heap[g]? = _:=blk_far (blk_drewN HC6.out nq) (p:=⟨g5,10,none⟩) HNE.out _
        have hd7 : ((w6.drewN nq).setCell ⟨g5,10,none⟩ (.slice A10 y10.length n10)).heap[g5]? = some (.cells #[.int .i64 y0,.slice B1 y1.length m1,.slice B2 y2.length m2,.slice B3 y3.length m3,.slice B4 y4.length m4,.slice B5 y5.length m5,.slice B6 y6.length m6,.slice B7 y7.length m7,.slice B8 y8.length m8,.slice B9 y9.length m9,.slice A10 y10.length n10] 65 (0,0)):=blk_put (blk_drewN HDB.out nq) 10 _ rfl
        have HR7:=Aside0.mk ((HR6.out.below (pw_below_drewN (Below.refl _ _) nq)).set (blk_drewN HDB.out nq) sub65 10 (.slice A10 y10.length n10))
        have HD7:=Aside0.mk ((HDR.out.below (pw_below_drewN (Below.refl _ _) nq)).set (blk_drewN HDB.out nq) sub65 10 (.slice A10 y10.length n10))
        clear HB6 HR6 HDR HC6 HDB
        generalize (w6.drewN nq).setCell ⟨g5,10,none⟩ (.slice A10 y10.length n10) = w7 at hc7 hd7 HB7 HR7 HD7 ⊢
        have HCA:=Aside0.mk (show CR w7 ⟨y0,y1,y2,y3,y4,y5,y6,y7,y8,y9,y10⟩ ⟨A1,A2,A3,A4,A5,A6,A7,A8,A9,A10,n1,n2,n3,n4,n5,n6,n7,n8,n9,n10⟩ from ⟨(Kd.R_reads' HR7.out.r1).2.2,(Kd.R_reads' HR7.out.r2).2.2,(Kd.R_reads' HR7.out.r3).2.2,(Kd.R_reads' HR7.out.r4).2.2,(Kd.R_reads' HR7.out.r5).2.2,(Kd.R_reads' HR7.out.r6).2.2,(Kd.R_reads' HR7.out.r7).2.2,(Kd.R_reads' HR7.out.r8).2.2,(Kd.R_reads' HR7.out.r9).2.2,(Kd.R_reads' HR7.out.r10).2.2⟩)
        have HCB:=Aside0.mk (show CR w7 ⟨y0,y1,y2,y3,y4,y5,y6,y7,y8,y9,y10⟩ ⟨B1,B2,B3,B4,B5,B6,B7,B8,B9,A10,m1,m2,m3,m4,m5,m6,m7,m8,m9,n10⟩ from ⟨(Kd.R_reads' HD7.out.r1).2.2,(Kd.R_reads' HD7.out.r2).2.2,(Kd.R_reads' HD7.out.r3).2.2,(Kd.R_reads' HD7.out.r4).2.2,(Kd.R_reads' HD7.out.r5).2.2,(Kd.R_reads' HD7.out.r6).2.2,(Kd.R_reads' HD7.out.r7).2.2,(Kd.R_reads' HD7.out.r8).2.2,(Kd.R_reads' HD7.out.r9).2.2,(Kd.R_reads' HR7.out.r10).2.2⟩)
        clear HR7 HD7
        have c0 : w7.cell? ⟨g,0,none⟩ = some (.int .i64 y0):=blk_cell hc7 0
        have d0 : w7.cell? ⟨g5,0,none⟩ = some (.int .i64 y0):=blk_cell hd7 0
        have c1 : w7.cell? ⟨g,1,none⟩ = some (.slice A1 y1.length n1):=blk_cell hc7 1
        have d1 : w7.cell? ⟨g5,1,none⟩ = some (.slice B1 y1.length m1):=blk_cell hd7 1
        have c2 : w7.cell? ⟨g,2,none⟩ = some (.slice A2 y2.length n2):=blk_cell hc7 2
        have d2 : w7.cell? ⟨g5,2,none⟩ = some (.slice B2 y2.length m2):=blk_cell hd7 2
        have c3 : w7.cell? ⟨g,3,none⟩ = some (.slice A3 y3.length n3):=blk_cell hc7 3
        have d3 : w7.cell? ⟨g5,3,none⟩ = some (.slice B3 y3.length m3):=blk_cell hd7 3
        have c4 : w7.cell? ⟨g,4,none⟩ = some (.slice A4 y4.length n4):=blk_cell hc7 4
        have d4 : w7.cell? ⟨g5,4,none⟩ = some (.slice B4 y4.length m4):=blk_cell hd7 4
        have c5 : w7.cell? ⟨g,5,none⟩ = some (.slice A5 y5.length n5):=blk_cell hc7 5
        have d5 : w7.cell? ⟨g5,5,none⟩ = some (.slice B5 y5.length m5):=blk_cell hd7 5
        have c6 : w7.cell? ⟨g,6,none⟩ = some (.slice A6 y6.length n6):=blk_cell hc7 6
        have d6 : w7.cell? ⟨g5,6,none⟩ = some (.slice B6 y6.length m6):=blk_cell hd7 6
        have c7 : w7.cell? ⟨g,7,none⟩ = some (.slice A7 y7.length n7):=blk_cell hc7 7
        have d7 : w7.cell? ⟨g5,7,none⟩ = some (.slice B7 y7.length m7):=blk_cell hd7 7
        have c8 : w7.cell? ⟨g,8,none⟩ = some (.slice A8 y8.length n8):=blk_cell hc7 8
        have d8 : w7.cell? ⟨g5,8,none⟩ = some (.slice B8 y8.length m8):=blk_cell hd7 8
        have c9 : w7.cell? ⟨g,9,none⟩ = some (.slice A9 y9.length n9):=blk_cell hc7 9
        have d9 : w7.cell? ⟨g5,9,none⟩ = some (.slice B9 y9.length m9):=blk_cell hd7 9
        have c10 : w7.cell? ⟨g,10,none⟩ = some (.slice A10 y10.length n10):=blk_cell hc7 10
        have d10 : w7.cell? ⟨g5,10,none⟩ = some (.slice A10 y10.length n10):=blk_cell hd7 10
        clear hc7 hd7
        have HSH:=Aside0.mk (read_short HRF.out)
        have HFT:=Aside0.mk (readF_fits HRF.out).2.1
        go_wp2_with (go_at_call 32;refine (same_calls HCA.out HCB.out (big_short HSH.out) (fun r hr => by have:=HFT.out r hr;omega)).mono ?_;rintro e w8 ⟨rfl,hb⟩;have HB8:=Aside0.mk (HB7.out.trans (hb.mono HB7.out.size));clear hb)
        go_ret
        exact ⟨by simp,HB8.out⟩
theorem more_calls {w : World} {s note : ByteArray} (hG : GV w) (hs : s.size ≤ 140737488355328) (hn : note.size ≤ 140737488355328) :
    Calls Tryd.prog 10 #[.string s,.string note] w fun e w' => e = .returned (.bool true) ∧ Below w.heap.size w w':=by
  have h:=right_law s
  obtain ⟨⟨x,fa,fc⟩,hr⟩ : ∃ r,readF s = r:=⟨_,rfl⟩
  rw [hr] at h
  rcases h with ⟨h1,_⟩|⟨h1,h2,_⟩
  · exact more_early hG hs hn hr (Or.inl h1)
  · dsimp only at h1 h2
    subst h1
    subst h2
    by_cases hz : 262134 < s.size + note.size
    · exact more_early hG hs hn hr (Or.inr ⟨rfl,rfl,Or.inl hz⟩)
    · by_cases hc : 1000 < x.f10.length
      · exact more_early hG hs hn hr (Or.inr ⟨rfl,rfl,Or.inr ⟨by omega,hc⟩⟩)
      · exact more_main hG hs hn hr ⟨by omega,by omega⟩
end Go.Proofs.YtojepjkpnponoaaDoor.Asc

