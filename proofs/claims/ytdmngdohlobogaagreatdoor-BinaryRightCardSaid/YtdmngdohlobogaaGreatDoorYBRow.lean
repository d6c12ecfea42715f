import Derived.Test.YtdmngdohlobogaaGreatDoorYM28
import Derived.Test.YtdmngdohlobogaaGreatDoorYM6
import Derived.Test.YtdmngdohlobogaaGreatDoorYSHOrderM
import Derived.Test.YtdmngdohlobogaaGreatDoorYM7
namespace Go.Proofs.YtdmngdohlobogaaGreatDoor.Asc
open Go Go.RowKit Go.Proofs.YtdmngdohlobogaaGreatDoorW.PrintWords Go.Proofs.YtdmngdohlobogaaGreatDoorW.PrintLast Go.Proofs.YtdmngdohlobogaaGreatDoorW.PrintMore
set_option linter.unusedVariables false
set_option linter.unusedSimpArgs false
attribute [local go_sem high] eqA40
def SD (w : World) (R : Nat) (s : ByteArray) (p : Nat) (b : Int) : Prop:=w.heap[R]? = some (.cells #[.string s,.int .i64 (p : Int),.int .i64 b] 47 (0,0))
theorem SD.below {w W : World} {R p : Nat} {s : ByteArray} {b : Int} (h : SD w R s p b) (hb : Below w.heap.size w W) : SD W R s p b:=(hb.block R (blk_lt h)).trans h
theorem SD.lt {w : World} {R p : Nat} {s : ByteArray} {b : Int} (h : SD w R s p b) : R < w.heap.size:=blk_lt h
theorem SD.grown {w W : World} {R p : Nat} {s : ByteArray} {b : Int} {row : Option Nat} (h : SD w R s p b) (hg : w.grownBy W row) (hne : some R ≠ row) : SD W R s p b:=blk_grown h hg hne
theorem SD.bad {w : World} {R p : Nat} {s : ByteArray} {b : Int} (h : SD w R s p b) (c : Int) : SD (w.setCell ⟨R,2,none⟩ (.int .i64 c)) R s p c:=blk_put h 2 _ rfl
theorem SD.at_ {w : World} {R p : Nat} {s : ByteArray} {b : Int} (h : SD w R s p b) (q : Nat) : SD (w.setCell ⟨R,1,none⟩ (.int .i64 (q : Int))) R s q b:=blk_put h 1 _ rfl
def RowEndB (w : World) (R : Nat) (s : ByteArray) (p most : Nat) (r : Option (List Int × Nat)) (e : Ending) (w' : World) : Prop:=match r with
 |some (ns,q) => ∃ v,e = .returned v ∧ Kd.R (Kd.int .i64) 3 w' w.heap.size (fun _ => True) v ns ∧ SD w' R s q (-1) ∧ KR w w' R
 |none => ∃ v,e = .returned v ∧ Kd.R (Kd.int .i64) 3 w' w.heap.size (fun _ => True) v (List.replicate most 0) ∧ SD w' R s p (p : Int) ∧ KR w w' R
theorem cut_line (s : ByteArray) (p : Nat) : ∃ l m b,cutS (s.extract p s.size) 10 = (l,m,b) ∧ l.size ≤ s.size - p ∧ (if b = true then lineF s p = some (l,p + l.size + 1) else lineF s p = none):=by
 have hge:=Lib.indexByte_ge (s.extract p s.size).data.toList 10
 have hlen : (s.extract p s.size).data.toList.length ≤ s.size - p:=by rw [Stim.extract_list,List.length_take,List.length_drop,data_length];omega
 by_cases hneg : Lib.indexByte (s.extract p s.size).data.toList 10 < 0
 ·refine ⟨s.extract p s.size,⟨#[]⟩,false,?_,?_,?_⟩
  ·unfold cutS Lib.cut
   rw [Lib.index_one,if_neg (by omega)]
  ·have:=data_length (s.extract p s.size)
   omega
  ·rw [if_neg Bool.noConfusion]
   unfold lineF
   rw [if_pos hneg]
 ·obtain ⟨i,hi⟩ : ∃ i : Nat,Lib.indexByte (s.extract p s.size).data.toList 10 = i:=⟨_,(Int.toNat_of_nonneg (by omega)).symm⟩
  have h10:=(Lib.indexByte_some hi).1
  have hil:=(List.getElem?_eq_some_iff.1 h10).1
  have el : (⟨((s.extract p s.size).data.toList.take i).toArray⟩ : ByteArray) = s.extract p (p + i):=by
   rw [← Stim.bytesA_data (s.extract p (p + i)),Stim.extract_list,Stim.extract_list,List.take_take]
   have : min i (s.size - p) = p + i - p:=by omega
   rw [this]
   rfl
  have ez : (s.extract p (p + i)).size = i:=by
   rw [← data_length,Stim.extract_list,List.length_take,List.length_drop,data_length]
   omega
  refine ⟨s.extract p (p + i),⟨((s.extract p s.size).data.toList.drop (i + 1)).toArray⟩,true,?_,by omega,?_⟩
  ·unfold cutS Lib.cut
   rw [Lib.index_one,hi,if_pos (by omega)]
   show ((⟨((s.extract p s.size).data.toList.take ((i : Int)).toNat).toArray⟩ : ByteArray),(⟨((s.extract p s.size).data.toList.drop (((i : Int)).toNat + 1)).toArray⟩ : ByteArray),true) = _
   rw [Int.toNat_natCast,el]
  ·rw [if_pos rfl]
   unfold lineF
   rw [hi,if_neg (by omega),Int.toNat_natCast,ez]
set_option maxHeartbeats 4000000 in
set_option maxRecDepth 100000 in
theorem rowB_calls {w0 w : World} {R p least most : Nat} {s : ByteArray} (hG : GV w0) (hB : Below w0.heap.size w0 w) (hR0 : w0.heap.size ≤ R) (hR : SD w R s p (-1)) (hp : p ≤ s.size) (hs : s.size ≤ 262144) (hm : least ≤ 9 ∧ most ≤ 9) :
  Calls Tryz.prog 53 #[.pointer (some ⟨R,0,none⟩),.int .i64 (least : Int),.int .i64 (most : Int)] w (RowEndB w R s p most (rowB s p least most)):=by
 obtain ⟨l,rest,ended,hcut,hll,hline⟩:=cut_line s p
 have HG:=A0_.mk hG
 have HB:=A0_.mk hB
 have HR0:=A0_.mk hR0
 have HSD:=A0_.mk hR
 have HP:=A0_.mk hp
 have HS:=A0_.mk hs
 have HM:=A0_.mk hm
 have HLL:=A0_.mk hll
 obtain ⟨RES,hRES⟩ : ∃ RES,rowB s p least most = RES:=⟨_,rfl⟩
 rw [hRES]
 have HRES:=A0_.mk hRES
 clear hRES
 have HLN:=A0_.mk hline
 have HCUT:=A0_.mk hcut
 have HTZ:=A0_.mk (show (s.extract p s.size).size < 4294967281 by rw [ByteArray.size_extract];omega)
 have hwm : IntKind.i64.wrap ((most : Int) + 1) = ((most + 1 : Nat) : Int):=by rw [IntKind.wrap_i64];omega
 clear hG hB hR0 hR hp hs hm hll hline hcut
 go_enter Tryz.func53,Tryz.ntmps53
 go_upto_region 2 with ((with_reducible refine gate_dst (N:=18) rfl ?_);refine Stim.mkcap (Kd.int .i64) (w0:=w) w.heap.size 3 rfl 22 _ _ rfl (most + 1) rfl (by first|exact congrArg (Value.int .i64) hwm|(simp [Act.eval,hwm];done)) Tryz.underlying22 (.int .i64 0) 8 info3 (by have:=HM.out;omega) (by have:=HM.out;simp only [maxLen];omega) (ok:=fun _ => True) trivial (Below.refl _ _) (Nat.le_refl _) ?_;intro v1 w1 hr hb hb1)
 have HV1:=A0_.mk hr
 have HB1:=A0_.mk hb
 have HSD1:=A0_.mk (HSD.out.below hb)
 clear hr hb hb1 hwm
 have c0 : w1.cell? ⟨R,0,none⟩ = some (.string s):=bC_ HSD1.out 0
 have c1 : w1.cell? ⟨R,1,none⟩ = some (.int .i64 (p : Int)):=bC_ HSD1.out 1
 have c2 : w1.cell? ⟨R,2,none⟩ = some (.int .i64 (-1)):=bC_ HSD1.out 2
 obtain ⟨A7,n7,rfl⟩:=Kd.R_slice HV1.out
 simp only [List.length_nil] at HV1 ⊢
 go_upto_region 5 with (fail)
 have cp1 : p ≤ s.size:=HP.out
 have cp2 : (p : Int) ≤ (s.size : Int):=by omega
 have HCQ:=A0_.mk (show ∀ n,Calls Tryz.prog 51 #[.string (s.extract p s.size),.string ⟨#[10]⟩] (w1.drewN n) fun e w' => e = .returned (.tuple #[.string l,.string rest,.bool ended]) ∧ ∃ m,w' = (w1.drewN n).drewN m from fun n => by
  obtain ⟨m,hm⟩:=(GV_below HG.out (HB.out.trans ((eN_ HB1.out n).mono HB.out.size))).max
  have hc : (w1.drewN n).cell? ⟨0,0,none⟩ = some (.int .i64 m):=by
   have:=World.var?_cell (P:=Tryz.prog) (g:=0) (by kernel_rfl) hm 0
   simpa using this
  refine (Tryz.strings_Cut (s.extract p s.size) ⟨#[10]⟩ m _ HTZ.out hc).mono ?_
  rintro e w' ⟨rfl,n2,rfl⟩
  refine ⟨?_,n2,rfl⟩
  have hq:=HCUT.out
  unfold cutS at hq
  injection hq with h1 hq
  injection hq with h2 h3
  rw [← h1,← h2,← h3])
 clear HTZ
 go_quiet ((go_at_call 51;exact Calls.quiet_of (HCQ.out _)))
 have HSD2:=A0_.mk (HSD1.out.below (eN_ (Below.refl _ _) nq))
 have HV2:=A0_.mk (Kd.R_drewN HV1.out nq)
 have HB2:=A0_.mk (eN_ HB1.out nq)
 clear c0 c1 c2 cp1 cp2 HSD1 HV1 HB1 HCQ
 generalize w1.drewN nq = w2 at HSD2 HV2 HB2 ⊢
 go_wp2
 (try simp only [Act.put,sA_,sB_,sC_])
 go_loopg [7,12] (l.size + 2) (fun kq v7 v12 w' => ∃ (out : List Int) (k : Nat),v12 = .int .i64 (k : Int) ∧ A0_ (l.size + 2 ≤ kq + k) ∧ A0_ (k ≤ l.size) ∧ A0_ (out.length ≤ most) ∧ A0_ (numsB l most kq k out = numsB l most (l.size + 2) 0 []) ∧ A0_ (Kd.R (Kd.int .i64) 3 w' w.heap.size (fun _ => True) v7 out) ∧ A0_ (SD w' R s p (-1)) ∧ A0_ (Below w.heap.size w w'))
 case atStart => exact ⟨[],0,rfl,⟨by omega⟩,⟨Nat.zero_le _⟩,⟨Nat.zero_le _⟩,⟨rfl⟩,HV2,HSD2,HB2⟩
 case round =>
  clear HV2 HSD2 HB2
  obtain ⟨out,k,rfl,HK,HKL,HOL,HNB,HRW,HSDW,HBW⟩:=hrel
  obtain ⟨g1,rfl⟩ : ∃ g1,gk = g1 + 1:=by
   cases gk with
   |zero => have:=HK.out;have:=HKL.out;omega
   |succ g1 => exact ⟨g1,rfl⟩
  obtain ⟨A7',n7',rfl⟩:=Kd.R_slice HRW.out
  have hN:=numberW_calls (w:=wr) (s:=l) (k:=k) (GV_below HG.out (HB.out.trans (HBW.out.mono HB.out.size))) (by have:=HLL.out;have:=HS.out;omega) HKL.out
  unfold NumV at hN
  cases hnw : numW l k with
  |none =>
   rw [hnw] at hN
   have HNUM:=A0_.mk hN
   have HNW:=A0_.mk hnw
   clear hN hnw
   go_upto_region 8 with (go_at_call 80;refine HNUM.out.mono ?_;rintro e w3 ⟨rfl,hb⟩;have HB3:=A0_.mk (HBW.out.trans (hb.mono HBW.out.size));have HRW3:=A0_.mk (Kd.R_below HRW.out hb);have HSD3:=A0_.mk (HSDW.out.below hb);clear hb)
   have hf:=blk_new w3 (.cells #[.int .i64 (k : Int),.int .i64 20] 32)
   have hbe : Below w3.heap.size w3 (w3.alloc (.cells #[.int .i64 (k : Int),.int .i64 20] 32)):=eA_ (Below.refl _ _) _
   have HB4:=A0_.mk (HB3.out.trans (hbe.mono HB3.out.size))
   have HRW4:=A0_.mk (Kd.R_below HRW3.out hbe)
   have HSD4:=A0_.mk (HSD3.out.below hbe)
   clear hbe HB3 HRW3 HSD3
   generalize w3.alloc (.cells #[.int .i64 (k : Int),.int .i64 20] 32) = w4 at hf HB4 HRW4 HSD4 ⊢
   generalize w3.heap.size = g15 at hf ⊢
   have f0 : w4.cell? ⟨g15,0,none⟩ = some (.int .i64 (k : Int)):=bC_ hf 0
   have f1 : w4.cell? ⟨g15,1,none⟩ = some (.int .i64 20):=bC_ hf 1
   clear hf
   rcases (by cases ended <;> simp : ended = false ∨ ended = true) with hend|hend
   ·subst hend
    have hgoal : RES = none:=by rw [← HRES.out];unfold rowB;have h:=HLN.out;rw [if_neg Bool.noConfusion] at h;rw [h];rfl
    subst hgoal
    have c2 : w4.cell? ⟨R,2,none⟩ = some (.int .i64 (-1)):=bC_ HSD4.out 2
    have z2:=bF_ HSD4.out 2
    clear HRES
    go_upto_region 10 with (fail)
    have HSD5:=A0_.mk (HSD4.out.bad (p : Int))
    have HKR5:=A0_.mk ((KR.below (Nat.le_of_lt HSD.out.lt) HB4.out).trans (KR.set w4 R 2 (.int .i64 (p : Int))))
    generalize w4.setCell ⟨R,2,none⟩ (.int .i64 (p : Int)) = w5 at HSD5 HKR5 ⊢
    have HLE5:=A0_.mk HKR5.out.kb.1
    have hmk:=make47 w5 most (by have:=HM.out;omega)
    go_wp2
    go_ret
    have hown : Kd.R (Kd.int .i64) 3 (w5.alloc (.cells (encI (List.replicate most 0)).toArray 3)) w.heap.size (fun _ => True) (.slice (some ⟨w5.heap.size,0,none⟩) (List.replicate most (0 : Int)).length (List.replicate most (0 : Int)).length) (List.replicate most 0):=Kd.R_of_own (own_lit w5 w.heap.size 3 .i64 (List.replicate most 0) HLE5.out (by rw [List.length_replicate];have:=HM.out;omega)) (fun _ _ => trivial)
    simp only [List.length_replicate] at hown
    have hg:=World.grownBy_alloc w5 (.cells (encI (List.replicate most 0)).toArray 3) none
    exact ⟨_,rfl,hown,HSD5.out.grown hg (by simp),HKR5.out.grown hg (fun k h => by cases h) (Nat.le_of_lt HSD.out.lt)⟩
   ·subst hend
    have hgoal : RES = none:=by
     have h:=HLN.out
     rw [if_pos rfl] at h
     have h2:=HNB.out
     rw [numsB,HNW.out] at h2
     rw [← HRES.out]
     unfold rowB
     rw [h]
     show (numsB l most (l.size + 2) 0 []).bind _ = none
     rw [← h2]
     rfl
    subst hgoal
    have c2 : w4.cell? ⟨R,2,none⟩ = some (.int .i64 (-1)):=bC_ HSD4.out 2
    have z2:=bF_ HSD4.out 2
    clear HRES
    go_upto_region 10 with (fail)
    have HSD5:=A0_.mk (HSD4.out.bad (p : Int))
    have HKR5:=A0_.mk ((KR.below (Nat.le_of_lt HSD.out.lt) HB4.out).trans (KR.set w4 R 2 (.int .i64 (p : Int))))
    generalize w4.setCell ⟨R,2,none⟩ (.int .i64 (p : Int)) = w5 at HSD5 HKR5 ⊢
    have HLE5:=A0_.mk HKR5.out.kb.1
    have hmk:=make47 w5 most (by have:=HM.out;omega)
    go_wp2
    go_ret
    have hown : Kd.R (Kd.int .i64) 3 (w5.alloc (.cells (encI (List.replicate most 0)).toArray 3)) w.heap.size (fun _ => True) (.slice (some ⟨w5.heap.size,0,none⟩) (List.replicate most (0 : Int)).length (List.replicate most (0 : Int)).length) (List.replicate most 0):=Kd.R_of_own (own_lit w5 w.heap.size 3 .i64 (List.replicate most 0) HLE5.out (by rw [List.length_replicate];have:=HM.out;omega)) (fun _ _ => trivial)
    simp only [List.length_replicate] at hown
    have hg:=World.grownBy_alloc w5 (.cells (encI (List.replicate most 0)).toArray 3) none
    exact ⟨_,rfl,hown,HSD5.out.grown hg (by simp),HKR5.out.grown hg (fun k h => by cases h) (Nat.le_of_lt HSD.out.lt)⟩
  |some ne =>
   obtain ⟨n,e⟩:=ne
   rw [hnw] at hN
   have HNUM:=A0_.mk hN
   have HNW:=A0_.mk hnw
   have HLE:=A0_.mk (numW_le HKL.out hnw)
   clear hN hnw
   go_upto_region 8 with (go_at_call 80;refine HNUM.out.mono ?_;rintro e w3 ⟨rfl,hb⟩;have HB3:=A0_.mk (HBW.out.trans (hb.mono HBW.out.size));have HRW3:=A0_.mk (Kd.R_below HRW.out hb);have HSD3:=A0_.mk (HSDW.out.below hb);clear hb)
   have hf:=blk_new w3 (.cells #[.int .i64 0,.int .i64 0] 32)
   have hbe : Below w3.heap.size w3 (w3.alloc (.cells #[.int .i64 0,.int .i64 0] 32)):=eA_ (Below.refl _ _) _
   have HB4:=A0_.mk (HB3.out.trans (hbe.mono HB3.out.size))
   have HRW4:=A0_.mk (Kd.R_below HRW3.out hbe)
   have HSD4:=A0_.mk (HSD3.out.below hbe)
   clear hbe HB3 HRW3 HSD3
   generalize w3.alloc (.cells #[.int .i64 0,.int .i64 0] 32) = w4 at hf HB4 HRW4 HSD4 ⊢
   generalize w3.heap.size = g15 at hf ⊢
   have f0 : w4.cell? ⟨g15,0,none⟩ = some (.int .i64 0):=bC_ hf 0
   have f1 : w4.cell? ⟨g15,1,none⟩ = some (.int .i64 0):=bC_ hf 1
   clear hf
   rcases (by cases ended <;> simp : ended = false ∨ ended = true) with hend|hend
   ·subst hend
    have hgoal : RES = none:=by rw [← HRES.out];unfold rowB;have h:=HLN.out;rw [if_neg Bool.noConfusion] at h;rw [h];rfl
    subst hgoal
    have c2 : w4.cell? ⟨R,2,none⟩ = some (.int .i64 (-1)):=bC_ HSD4.out 2
    have z2:=bF_ HSD4.out 2
    clear HRES
    go_upto_region 10 with (fail)
    have HSD5:=A0_.mk (HSD4.out.bad (p : Int))
    have HKR5:=A0_.mk ((KR.below (Nat.le_of_lt HSD.out.lt) HB4.out).trans (KR.set w4 R 2 (.int .i64 (p : Int))))
    generalize w4.setCell ⟨R,2,none⟩ (.int .i64 (p : Int)) = w5 at HSD5 HKR5 ⊢
    have HLE5:=A0_.mk HKR5.out.kb.1
    have hmk:=make47 w5 most (by have:=HM.out;omega)
    go_wp2
    go_ret
    have hown : Kd.R (Kd.int .i64) 3 (w5.alloc (.cells (encI (List.replicate most 0)).toArray 3)) w.heap.size (fun _ => True) (.slice (some ⟨w5.heap.size,0,none⟩) (List.replicate most (0 : Int)).length (List.replicate most (0 : Int)).length) (List.replicate most 0):=Kd.R_of_own (own_lit w5 w.heap.size 3 .i64 (List.replicate most 0) HLE5.out (by rw [List.length_replicate];have:=HM.out;omega)) (fun _ _ => trivial)
    simp only [List.length_replicate] at hown
    have hg:=World.grownBy_alloc w5 (.cells (encI (List.replicate most 0)).toArray 3) none
    exact ⟨_,rfl,hown,HSD5.out.grown hg (by simp),HKR5.out.grown hg (fun k h => by cases h) (Nat.le_of_lt HSD.out.lt)⟩
   ·subst hend
    by_cases hes : e < l.size
    ·have ce : decide ((e : Int) < (l.size : Int)) = true:=decide_eq_true (by omega)
     have ci : (e : Int) < (l.size : Int):=by omega
     by_cases h32 : (l[e]'hes).toNat = 32
     ·have b32 : ((((l[e]'hes).toNat : Nat) : Int) == 32) = true:=by rw [h32];rfl
      have hg32 : l.data.toList[e]? = some 32:=by
       rw [List.getElem?_eq_getElem (by rw [data_length];exact hes)]
       exact congrArg some (UInt8.toNat_inj.1 h32)
      by_cases hom : out.length = most
      ·have om : ((out.length : Int) == (most : Int)) = true:=beq_iff_eq.2 (by omega)
       have om2 : (out.length == most) = true:=beq_iff_eq.2 hom
       have HOM:=A0_.mk hom
       have HG32:=A0_.mk hg32
       clear hom hg32
       have hgoal : RES = none:=by
        have h:=HLN.out
        rw [if_pos rfl] at h
        have h2:=HNB.out
        rw [numsB,HNW.out] at h2
        dsimp only at h2
        rw [if_neg (fun h3 => h3.2 HG32.out),if_pos HOM.out] at h2
        rw [← HRES.out]
        unfold rowB
        rw [h]
        show (numsB l most (l.size + 2) 0 []).bind _ = none
        rw [← h2]
        rfl
       subst hgoal
       have c2 : w4.cell? ⟨R,2,none⟩ = some (.int .i64 (-1)):=bC_ HSD4.out 2
       have z2:=bF_ HSD4.out 2
       clear HRES
       go_upto_region 10 with (fail)
       have HSD5:=A0_.mk (HSD4.out.bad (p : Int))
       have HKR5:=A0_.mk ((KR.below (Nat.le_of_lt HSD.out.lt) HB4.out).trans (KR.set w4 R 2 (.int .i64 (p : Int))))
       generalize w4.setCell ⟨R,2,none⟩ (.int .i64 (p : Int)) = w5 at HSD5 HKR5 ⊢
       have HLE5:=A0_.mk HKR5.out.kb.1
       have hmk:=make47 w5 most (by have:=HM.out;omega)
       go_wp2
       go_ret
       have hown : Kd.R (Kd.int .i64) 3 (w5.alloc (.cells (encI (List.replicate most 0)).toArray 3)) w.heap.size (fun _ => True) (.slice (some ⟨w5.heap.size,0,none⟩) (List.replicate most (0 : Int)).length (List.replicate most (0 : Int)).length) (List.replicate most 0):=Kd.R_of_own (own_lit w5 w.heap.size 3 .i64 (List.replicate most 0) HLE5.out (by rw [List.length_replicate];have:=HM.out;omega)) (fun _ _ => trivial)
       simp only [List.length_replicate] at hown
       have hg:=World.grownBy_alloc w5 (.cells (encI (List.replicate most 0)).toArray 3) none
       exact ⟨_,rfl,hown,HSD5.out.grown hg (by simp),HKR5.out.grown hg (fun k h => by cases h) (Nat.le_of_lt HSD.out.lt)⟩
      ·have om : ((out.length : Int) == (most : Int)) = false:=beq_eq_false_iff_ne.2 (by omega)
       have om2 : (out.length == most) = false:=beq_eq_false_iff_ne.2 hom
       have HNB5:=A0_.mk (show numsB l most g1 (e + 1) (out ++ [n]) = numsB l most (l.size + 2) 0 [] by
        rw [← HNB.out]
        conv => rhs;rw [numsB,HNW.out]
        dsimp only
        rw [if_neg (fun h3 => h3.2 hg32),if_neg hom,if_neg (by omega)])
       have HOM:=A0_.mk hom
       have eb : ((e : Int) == (l.size : Int)) = false:=beq_eq_false_iff_ne.2 (by omega)
       have eb2 : (e == l.size) = false:=beq_eq_false_iff_ne.2 (by omega)
       have hwe : IntKind.i64.wrap ((e : Int) + 1) = ((e + 1 : Nat) : Int):=by have:=HLL.out;have:=HS.out;rw [IntKind.wrap_i64];omega
       clear hom hg32
       go_upto_region 12 with (first|(at_builtin;refine Kd.R_append (Kd.int .i64) (w0:=w) w.heap.size rfl (.tmp 83) (.tmp 85) 22 3 (.int .i64 0) 8 rfl Tryz.underlying22 info3 rfl (by decide) (by decide) _ out n [.int .i64 n] (fun _ => True) (fun _ => False) rfl rfl rfl (fun _ h => h.elim) (fun _ _ => trivial) HRW4.out HB4.out (below_size HB4.out) (by have:=HOL.out;have:=HM.out;omega) ?_;intro v5 w5 hr5 hb5 hg5 hat5)|go_in)
       have HRW5:=A0_.mk hr5
       have HB5:=A0_.mk hb5
       have HSD5:=A0_.mk (HSD4.out.grown hg5 (fun h => by have h1:=Kd.R_base HRW4.out R h.symm;have h2:=HSD.out.lt;omega))
       clear hr5 hb5 hg5 hat5 f0 f1 HSD4 HB4 HRW4
       go_wp2
       go_roundg g1
       case measure => omega
       case rel => exact ⟨out ++ [n],e + 1,by push_cast;rfl,⟨by have:=HK.out;have:=HLE.out;omega⟩,⟨by omega⟩,⟨by rw [List.length_append];have:=HOL.out;have:=HOM.out;simp;omega⟩,HNB5,HRW5,HSD5,HB5⟩
     ·have b32 : ((((l[e]'hes).toNat : Nat) : Int) == 32) = false:=beq_eq_false_iff_ne.2 (by omega)
      have HG32:=A0_.mk (show l.data.toList[e]? ≠ some 32 from fun h => by
       rw [List.getElem?_eq_getElem (by rw [data_length];exact hes)] at h
       injection h with h
       exact h32 (congrArg UInt8.toNat h))
      have HES:=A0_.mk hes
      have hgoal : RES = none:=by
       have h:=HLN.out
       rw [if_pos rfl] at h
       have h2:=HNB.out
       rw [numsB,HNW.out] at h2
       dsimp only at h2
       rw [if_pos ⟨HES.out,HG32.out⟩] at h2
       rw [← HRES.out]
       unfold rowB
       rw [h]
       show (numsB l most (l.size + 2) 0 []).bind _ = none
       rw [← h2]
       rfl
      subst hgoal
      have c2 : w4.cell? ⟨R,2,none⟩ = some (.int .i64 (-1)):=bC_ HSD4.out 2
      have z2:=bF_ HSD4.out 2
      clear HRES
      go_upto_region 10 with (fail)
      have HSD5:=A0_.mk (HSD4.out.bad (p : Int))
      have HKR5:=A0_.mk ((KR.below (Nat.le_of_lt HSD.out.lt) HB4.out).trans (KR.set w4 R 2 (.int .i64 (p : Int))))
      generalize w4.setCell ⟨R,2,none⟩ (.int .i64 (p : Int)) = w5 at HSD5 HKR5 ⊢
      have HLE5:=A0_.mk HKR5.out.kb.1
      have hmk:=make47 w5 most (by have:=HM.out;omega)
      go_wp2
      go_ret
      have hown : Kd.R (Kd.int .i64) 3 (w5.alloc (.cells (encI (List.replicate most 0)).toArray 3)) w.heap.size (fun _ => True) (.slice (some ⟨w5.heap.size,0,none⟩) (List.replicate most (0 : Int)).length (List.replicate most (0 : Int)).length) (List.replicate most 0):=Kd.R_of_own (own_lit w5 w.heap.size 3 .i64 (List.replicate most 0) HLE5.out (by rw [List.length_replicate];have:=HM.out;omega)) (fun _ _ => trivial)
      simp only [List.length_replicate] at hown
      have hg:=World.grownBy_alloc w5 (.cells (encI (List.replicate most 0)).toArray 3) none
      exact ⟨_,rfl,hown,HSD5.out.grown hg (by simp),HKR5.out.grown hg (fun k h => by cases h) (Nat.le_of_lt HSD.out.lt)⟩
    ·have hee : e = l.size:=by have:=HLE.out;omega
     subst hee
     have ce : decide ((l.size : Int) < (l.size : Int)) = false:=decide_eq_false (by omega)
     clear hes
     by_cases hom : out.length = most
     ·have om : ((out.length : Int) == (most : Int)) = true:=beq_iff_eq.2 (by omega)
      have om2 : (out.length == most) = true:=beq_iff_eq.2 hom
      have HOM:=A0_.mk hom
      clear hom
      have hgoal : RES = none:=by
       have h:=HLN.out
       rw [if_pos rfl] at h
       have h2:=HNB.out
       rw [numsB,HNW.out] at h2
       dsimp only at h2
       rw [if_neg (fun h3 => Nat.lt_irrefl _ h3.1),if_pos HOM.out] at h2
       rw [← HRES.out]
       unfold rowB
       rw [h]
       show (numsB l most (l.size + 2) 0 []).bind _ = none
       rw [← h2]
       rfl
      subst hgoal
      have c2 : w4.cell? ⟨R,2,none⟩ = some (.int .i64 (-1)):=bC_ HSD4.out 2
      have z2:=bF_ HSD4.out 2
      clear HRES
      go_upto_region 10 with (fail)
      have HSD5:=A0_.mk (HSD4.out.bad (p : Int))
      have HKR5:=A0_.mk ((KR.below (Nat.le_of_lt HSD.out.lt) HB4.out).trans (KR.set w4 R 2 (.int .i64 (p : Int))))
      generalize w4.setCell ⟨R,2,none⟩ (.int .i64 (p : Int)) = w5 at HSD5 HKR5 ⊢
      have HLE5:=A0_.mk HKR5.out.kb.1
      have hmk:=make47 w5 most (by have:=HM.out;omega)
      go_wp2
      go_ret
      have hown : Kd.R (Kd.int .i64) 3 (w5.alloc (.cells (encI (List.replicate most 0)).toArray 3)) w.heap.size (fun _ => True) (.slice (some ⟨w5.heap.size,0,none⟩) (List.replicate most (0 : Int)).length (List.replicate most (0 : Int)).length) (List.replicate most 0):=Kd.R_of_own (own_lit w5 w.heap.size 3 .i64 (List.replicate most 0) HLE5.out (by rw [List.length_replicate];have:=HM.out;omega)) (fun _ _ => trivial)
      simp only [List.length_replicate] at hown
      have hg:=World.grownBy_alloc w5 (.cells (encI (List.replicate most 0)).toArray 3) none
      exact ⟨_,rfl,hown,HSD5.out.grown hg (by simp),HKR5.out.grown hg (fun k h => by cases h) (Nat.le_of_lt HSD.out.lt)⟩
     ·have om : ((out.length : Int) == (most : Int)) = false:=beq_eq_false_iff_ne.2 (by omega)
      have om2 : (out.length == most) = false:=beq_eq_false_iff_ne.2 hom
      go_upto_region 12 with (first|(at_builtin;refine Kd.R_append (Kd.int .i64) (w0:=w) w.heap.size rfl (.tmp 83) (.tmp 85) 22 3 (.int .i64 0) 8 rfl Tryz.underlying22 info3 rfl (by decide) (by decide) _ out n [.int .i64 n] (fun _ => True) (fun _ => False) rfl rfl rfl (fun _ h => h.elim) (fun _ _ => trivial) HRW4.out HB4.out (below_size HB4.out) (by have:=HOL.out;have:=HM.out;omega) ?_;intro v5 w5 hr5 hb5 hg5 hat5)|go_in)
      have HRW5:=A0_.mk hr5
      have HB5:=A0_.mk hb5
      have HSD5:=A0_.mk (HSD4.out.grown hg5 (fun h => by have h1:=Kd.R_base HRW4.out R h.symm;have h2:=HSD.out.lt;omega))
      clear hr5 hb5 hg5 hat5 f0 f1 HSD4 HB4 HRW4
      have hRE : RES = if (out ++ [n]).length < least then none else some (out ++ [n],p + l.size + 1):=by
       have h:=HLN.out
       rw [if_pos rfl] at h
       have h2:=HNB.out
       rw [numsB,HNW.out] at h2
       dsimp only at h2
       rw [if_neg (fun h3 => Nat.lt_irrefl _ h3.1),if_neg hom,if_pos rfl] at h2
       rw [← HRES.out]
       unfold rowB
       rw [h]
       show (numsB l most (l.size + 2) 0 []).bind _ = _
       rw [← h2]
       rfl
      have HRE:=A0_.mk hRE
      have HOM:=A0_.mk hom
      clear hRE hom
      obtain ⟨A5,n5,rfl⟩:=Kd.R_slice HRW5.out
      have hlen : (out ++ [n]).length = out.length + 1:=by simp
      rw [hlen] at HRE HRW5 ⊢
      by_cases hlt : out.length + 1 < least
      ·have dl1 : decide (((out.length : Int) + 1) < (least : Int)) = true:=decide_eq_true (by omega)
       have dl2 : decide (out.length + 1 < least) = true:=decide_eq_true hlt
       have hgoal : RES = none:=by rw [HRE.out,if_pos hlt]
       subst hgoal
       have c1 : w5.cell? ⟨R,1,none⟩ = some (.int .i64 (p : Int)):=bC_ HSD5.out 1
       have c2 : w5.cell? ⟨R,2,none⟩ = some (.int .i64 (-1)):=bC_ HSD5.out 2
       have z2:=bF_ HSD5.out 2
       clear HRES HRE
       go_upto_region 16 with (fail)
       have HSD6:=A0_.mk (HSD5.out.bad (p : Int))
       have HKR6:=A0_.mk ((KR.below (Nat.le_of_lt HSD.out.lt) HB5.out).trans (KR.set w5 R 2 (.int .i64 (p : Int))))
       generalize w5.setCell ⟨R,2,none⟩ (.int .i64 (p : Int)) = w6 at HSD6 HKR6 ⊢
       have HLE6:=A0_.mk HKR6.out.kb.1
       have hmk:=make47 w6 most (by have:=HM.out;omega)
       go_wp2
       go_ret
       have hown : Kd.R (Kd.int .i64) 3 (w6.alloc (.cells (encI (List.replicate most 0)).toArray 3)) w.heap.size (fun _ => True) (.slice (some ⟨w6.heap.size,0,none⟩) (List.replicate most (0 : Int)).length (List.replicate most (0 : Int)).length) (List.replicate most 0):=Kd.R_of_own (own_lit w6 w.heap.size 3 .i64 (List.replicate most 0) HLE6.out (by rw [List.length_replicate];have:=HM.out;omega)) (fun _ _ => trivial)
       simp only [List.length_replicate] at hown
       have hg:=World.grownBy_alloc w6 (.cells (encI (List.replicate most 0)).toArray 3) none
       exact ⟨_,rfl,hown,HSD6.out.grown hg (by simp),HKR6.out.grown hg (fun k h => by cases h) (Nat.le_of_lt HSD.out.lt)⟩
      ·have dl1 : decide (((out.length : Int) + 1) < (least : Int)) = false:=decide_eq_false (by omega)
       have dl2 : decide (out.length + 1 < least) = false:=decide_eq_false hlt
       have hgoal : RES = some (out ++ [n],p + l.size + 1):=by rw [HRE.out,if_neg hlt]
       subst hgoal
       have c1 : w5.cell? ⟨R,1,none⟩ = some (.int .i64 (p : Int)):=bC_ HSD5.out 1
       have z1:=bF_ HSD5.out 1
       have hw1 : IntKind.i64.wrap ((l.size : Int) + 1) = (l.size : Int) + 1:=by have:=HLL.out;have:=HS.out;rw [IntKind.wrap_i64];omega
       have hw2 : IntKind.i64.wrap ((p : Int) + ((l.size : Int) + 1)) = (p : Int) + ((l.size : Int) + 1):=by have:=HLL.out;have:=HP.out;have:=HS.out;rw [IntKind.wrap_i64];omega
       clear HRES HRE
       go_wp2
       go_ret
       have hpe : (p : Int) + ((l.size : Int) + 1) = ((p + l.size + 1 : Nat) : Int):=by push_cast;omega
       rw [hpe]
       exact ⟨_,rfl,Kd.R_mono (Kd.R_far (Kd.R_mono (Kd.R_bound HRW5.out) (fun k hk => hk.2.1)) (p:=⟨R,1,none⟩) (fun k hk => by have:=HSD.out.lt;intro e;have e2 : k = R:=e;omega) _) (fun _ _ => trivial),HSD5.out.at_ (p + l.size + 1),(KR.below (Nat.le_of_lt HSD.out.lt) HB5.out).trans (KR.set w5 R 1 _)⟩
end Go.Proofs.YtdmngdohlobogaaGreatDoor.Asc

