import Derived.Test.YtdmngdohlobogaaGreatDoorYM25
import Derived.Test.YtdmngdohlobogaaGreatDoorYM12
import Derived.Test.YtdmngdohlobogaaGreatDoorYSHCheck
import Derived.Lib.IndexLaws
import Derived.Test.YtdmngdohlobogaaGreatDoorYM5
section
namespace Go.Proofs.YtdmngdohlobogaaGreatDoor.Asc
open Go Go.RowKit Go.Proofs.YtdmngdohlobogaaGreatDoorW.PrintWords Go.Proofs.YtdmngdohlobogaaGreatDoorW.PrintLast Go.Proofs.YtdmngdohlobogaaGreatDoorW.PrintMore
set_option linter.unusedVariables false
set_option linter.unusedSimpArgs false
def ReadEnd (w : World) (r : S65 × Int × Int) (e : Ending) (w' : World) : Prop :=
 ∃ v : VS,e = .returned (.tuple #[.agg (cellsV r.1.f0 v),.agg #[.int .i64 r.2.1,.int .i64 r.2.2]]) ∧ CRows w' w.heap.size r.1 v ∧ Below w.heap.size w w'
def nilVS : VS:=⟨.slice none 0 0,.slice none 0 0,.slice none 0 0,.slice none 0 0,.slice none 0 0,.slice none 0 0,.slice none 0 0,.slice none 0 0,.slice none 0 0,.slice none 0 0⟩
theorem rows_nil (W : World) (base : Nat) : CRows W base x0S nilVS:=⟨Kd.R_nil _ _ _ _ _,Kd.R_nil _ _ _ _ _,Kd.R_nil _ _ _ _ _,Kd.R_nil _ _ _ _ _,Kd.R_nil _ _ _ _ _,Kd.R_nil _ _ _ _ _,Kd.R_nil _ _ _ _ _,Kd.R_nil _ _ _ _ _,Kd.R_nil _ _ _ _ _,Kd.R_nil _ _ _ _ _⟩
structure RdS (w W : World) (x : S65) (v : VS) (fa fc : Int) : Prop where
 C : W.heap[w.heap.size]? = some (.cells (cellsV x.f0 v) 29 (0,0))
 F : W.heap[w.heap.size + 1]? = some (.cells #[.int .i64 fa,.int .i64 fc] 32 (0,0))
 rows : CRows W w.heap.size x v
 be : Below w.heap.size w W
theorem RdS.below {w W V : World} {x : S65} {v : VS} {fa fc : Int} (h : RdS w W x v fa fc) (hb : Below W.heap.size W V) : RdS w V x v fa fc :=
 ⟨(hb.block _ (blk_lt h.C)).trans h.C,(hb.block _ (blk_lt h.F)).trans h.F,h.rows.below hb,h.be.trans (hb.mono h.be.size)⟩
theorem RdS.begin (w : World) : RdS w ((w.alloc (.cells #[.int .i64 0,.slice none 0 0,.slice none 0 0,.slice none 0 0,.slice none 0 0,.slice none 0 0,.slice none 0 0,.slice none 0 0,.slice none 0 0,.slice none 0 0,.slice none 0 0] 29)).alloc (.cells #[.int .i64 0,.int .i64 0] 32)) x0S nilVS 0 0:=by
 have hF:=blk_new (w.alloc (.cells #[.int .i64 0,.slice none 0 0,.slice none 0 0,.slice none 0 0,.slice none 0 0,.slice none 0 0,.slice none 0 0,.slice none 0 0,.slice none 0 0,.slice none 0 0,.slice none 0 0] 29)) (.cells #[.int .i64 0,.int .i64 0] 32)
 simp only [World.size_alloc] at hF
 exact ⟨bA_ (blk_new w _) _,hF,rows_nil _ _,eA_ (eA_ (Below.refl _ _) _) _⟩
theorem RdS.setF {w W : World} {x : S65} {v : VS} {fa fc : Int} (h : RdS w W x v fa fc) (a b : Int) : RdS w ((W.setCell ⟨w.heap.size + 1,0,none⟩ (.int .i64 a)).setCell ⟨w.heap.size + 1,1,none⟩ (.int .i64 b)) x v a b :=
 ⟨blk_far (blk_far h.C (p:=⟨w.heap.size + 1,0,none⟩) (by simp) _) (p:=⟨w.heap.size + 1,1,none⟩) (by simp) _,blk2 h.F _ _,(h.rows.set h.F (by decide) 0 _).set (blk_set h.F 0 _) (by decide) 1 _,(h.be.setCell (p:=⟨w.heap.size + 1,0,none⟩) (by simp) _).setCell (p:=⟨w.heap.size + 1,1,none⟩) (by simp) _⟩
theorem RdS.setC {w W : World} {x x' : S65} {v v' : VS} {fa fc : Int} (h : RdS w W x v fa fc) (hr : CRows W w.heap.size x' v') : RdS w ((((((((((((W).setCell ⟨w.heap.size,0,none⟩ (.int .i64 x'.f0)).setCell ⟨w.heap.size,1,none⟩ (v'.v1)).setCell ⟨w.heap.size,2,none⟩ (v'.v2)).setCell ⟨w.heap.size,3,none⟩ (v'.v3)).setCell ⟨w.heap.size,4,none⟩ (v'.v4)).setCell ⟨w.heap.size,5,none⟩ (v'.v5)).setCell ⟨w.heap.size,6,none⟩ (v'.v6)).setCell ⟨w.heap.size,7,none⟩ (v'.v7)).setCell ⟨w.heap.size,8,none⟩ (v'.v8)).setCell ⟨w.heap.size,9,none⟩ (v'.v9)).setCell ⟨w.heap.size,10,none⟩ (v'.v10)) x' v' fa fc:=by
 have hb:=blk11 (show W.heap[w.heap.size]? = some (.cells #[.int .i64 x.f0,v.v1,v.v2,v.v3,v.v4,v.v5,v.v6,v.v7,v.v8,v.v9,v.v10] 29 (0,0)) from h.C) (.int .i64 x'.f0) v'.v1 v'.v2 v'.v3 v'.v4 v'.v5 v'.v6 v'.v7 v'.v8 v'.v9 v'.v10
 exact ⟨hb,(blk_far (blk_far (blk_far (blk_far (blk_far (blk_far (blk_far (blk_far (blk_far (blk_far (blk_far h.F (p:=⟨w.heap.size,0,none⟩) (Nat.succ_ne_self _) _) (p:=⟨w.heap.size,1,none⟩) (Nat.succ_ne_self _) _) (p:=⟨w.heap.size,2,none⟩) (Nat.succ_ne_self _) _) (p:=⟨w.heap.size,3,none⟩) (Nat.succ_ne_self _) _) (p:=⟨w.heap.size,4,none⟩) (Nat.succ_ne_self _) _) (p:=⟨w.heap.size,5,none⟩) (Nat.succ_ne_self _) _) (p:=⟨w.heap.size,6,none⟩) (Nat.succ_ne_self _) _) (p:=⟨w.heap.size,7,none⟩) (Nat.succ_ne_self _) _) (p:=⟨w.heap.size,8,none⟩) (Nat.succ_ne_self _) _) (p:=⟨w.heap.size,9,none⟩) (Nat.succ_ne_self _) _) (p:=⟨w.heap.size,10,none⟩) (Nat.succ_ne_self _) _),hr.set11 h.C _ _ _ _ _ _ _ _ _ _ _,(((((((((((h.be.setCell (p:=⟨w.heap.size,0,none⟩) (Nat.le_refl _) _).setCell (p:=⟨w.heap.size,1,none⟩) (Nat.le_refl _) _).setCell (p:=⟨w.heap.size,2,none⟩) (Nat.le_refl _) _).setCell (p:=⟨w.heap.size,3,none⟩) (Nat.le_refl _) _).setCell (p:=⟨w.heap.size,4,none⟩) (Nat.le_refl _) _).setCell (p:=⟨w.heap.size,5,none⟩) (Nat.le_refl _) _).setCell (p:=⟨w.heap.size,6,none⟩) (Nat.le_refl _) _).setCell (p:=⟨w.heap.size,7,none⟩) (Nat.le_refl _) _).setCell (p:=⟨w.heap.size,8,none⟩) (Nat.le_refl _) _).setCell (p:=⟨w.heap.size,9,none⟩) (Nat.le_refl _) _).setCell (p:=⟨w.heap.size,10,none⟩) (Nat.le_refl _) _)⟩
theorem CRows.lower {W : World} {base b : Nat} {x : S65} {v : VS} (h : CRows W base x v) (hb : b ≤ base) : CRows W b x v :=
 ⟨Kd.R_lower h.r1 hb,Kd.R_lower h.r2 hb,Kd.R_lower h.r3 hb,Kd.R_lower h.r4 hb,Kd.R_lower h.r5 hb,Kd.R_lower h.r6 hb,Kd.R_lower h.r7 hb,Kd.R_lower h.r8 hb,Kd.R_lower h.r9 hb,Kd.R_lower h.r10 hb⟩
theorem RdS.kr0 {w W V : World} {R : Nat} {fa fc : Int} (h : RdS w W x0S nilVS fa fc) (k : KR W V R) (hR : w.heap.size + 1 < R) : RdS w V x0S nilVS fa fc :=
 ⟨(k.kb.2 _ (blk_lt h.C) (by omega)).trans h.C,(k.kb.2 _ (blk_lt h.F) (by omega)).trans h.F,rows_nil _ _,h.be.trans (k.be.mono (by omega))⟩
theorem RD.set11 {W : World} {R b q : Nat} {s : ByteArray} (h : RD W R s q) (hne : R ≠ b) (a0 a1 a2 a3 a4 a5 a6 a7 a8 a9 a10 : Value) : RD ((((((((((((W).setCell ⟨b,0,none⟩ a0).setCell ⟨b,1,none⟩ a1).setCell ⟨b,2,none⟩ a2).setCell ⟨b,3,none⟩ a3).setCell ⟨b,4,none⟩ a4).setCell ⟨b,5,none⟩ a5).setCell ⟨b,6,none⟩ a6).setCell ⟨b,7,none⟩ a7).setCell ⟨b,8,none⟩ a8).setCell ⟨b,9,none⟩ a9).setCell ⟨b,10,none⟩ a10) R s q:=far11 h hne _ _ _ _ _ _ _ _ _ _ _
theorem tail_zero (s : ByteArray) (p : Int) (h : (tailF s p).2.2.2 = 0) : (tailF s p).2.2.1 = 0:=by
 unfold tailF at h ⊢
 by_cases h1 : 262144 < s.size
 ·rw [if_pos h1]
 ·rw [if_neg h1] at h ⊢
  by_cases h2 : p < 0 ∨ (s.size : Int) < p
  ·rw [if_pos h2]
  ·rw [if_neg h2] at h ⊢
   cases hg : tailGo s (s.size + 1) p.toNat false with
   |error e =>
    rw [hg] at h
    exact absurd (show (42 : Int) = 0 from h) (by decide)
   |ok x => rfl
end Go.Proofs.YtdmngdohlobogaaGreatDoor.Asc
end
section
namespace Go.Proofs.YtdmngdohlobogaaGreatDoor.Asc
open Go Go.RowKit Go.Proofs.YtdmngdohlobogaaGreatDoorW.PrintWords
set_option linter.unusedVariables false
set_option linter.unusedSimpArgs false
theorem lineR_place {s : ByteArray} {p : Nat} {l : ByteArray} {q : Nat} (h : lineF s p = some (l,q)) : q ≤ s.size:=by
 unfold lineF at h
 split at h
 ·cases h
 ·have hl:=Stim.indexByte_lt (s.extract p s.size).data.toList 10
  have hd : (s.extract p s.size).data.toList.length ≤ s.size - p:=by
   rw [Stim.extract_list,List.length_take,List.length_drop,data_length]
   omega
  injection h with h
  injection h with h1 h2
  omega
theorem tailGo_place (s : ByteArray) : ∀ (m p : Nat) (n : Bool) (e : Nat),p ≤ s.size → tailGo s m p n = .error e → e ≤ s.size
 |0,p,n,e,hp,h => by
  unfold tailGo at h
  injection h with h
  omega
 |m + 1,p,n,e,hp,h => by
  unfold tailGo at h
  split at h
  ·cases h
  ·split at h
   ·injection h with h;omega
   ·rename_i l q hq
    have hq:=lineR_place hq
    split at h
    ·cases hr : tailGo s m q true with
     |error e' => rw [hr] at h;injection h with h;subst h;exact tailGo_place s m q true _ hq hr
     |ok z => rw [hr] at h;cases h
    ·split at h
     ·exact tailGo_place s m q true e hq h
     ·split at h
      ·injection h with h;omega
      ·cases hr : tailGo s m q false with
       |error e' => rw [hr] at h;injection h with h;subst h;exact tailGo_place s m q false _ hq hr
       |ok z => rw [hr] at h;cases h
theorem tailF_place {s : ByteArray} {p : Nat} (hp : p ≤ s.size) : 0 ≤ (tailF s p).2.2.1 ∧ (tailF s p).2.2.1 ≤ s.size:=by
 unfold tailF
 split
 ·exact ⟨Int.le_refl _,Int.natCast_nonneg _⟩
 ·split
  ·exact ⟨Int.le_refl _,Int.natCast_nonneg _⟩
  ·cases hr : tailGo s (s.size + 1) ((p : Nat) : Int).toNat false with
   |error e =>
    have:=tailGo_place s _ _ _ e (by rw [Int.toNat_natCast];exact hp) hr
    exact ⟨Int.natCast_nonneg _,Int.ofNat_le.2 this⟩
   |ok z => exact ⟨Int.le_refl _,Int.natCast_nonneg _⟩
end Go.Proofs.YtdmngdohlobogaaGreatDoor.Asc
end
section
namespace Go.Proofs.YtdmngdohlobogaaGreatDoor.Asc
open Go Go.RowKit Go.Proofs.YtdmngdohlobogaaGreatDoorW.PrintWords Go.Proofs.YtdmngdohlobogaaGreatDoorW.PrintLast Go.Proofs.YtdmngdohlobogaaGreatDoorW.PrintMore
set_option linter.unusedVariables false
set_option linter.unusedSimpArgs false
set_option maxHeartbeats 1000000 in
set_option maxRecDepth 100000 in
theorem eq62 {w : World} {A B : Option Addr} {n m : Nat} {l : List (List Int)} (hn : l.length ≤ 9223372036854775806) (hl : ∀ r ∈ l,r.length ≤ 9223372036854775806) (hA : (Kd.slice 3 (Kd.int .i64)).C w A l.length l) (hB : (Kd.slice 3 (Kd.int .i64)).C w B l.length l) :
  Calls Tryz.prog 43 #[.slice A l.length n,.slice B l.length m,.func (.func 44) #[] #[]] w fun e w' => e = .returned (.bool true) ∧ Drawn0 w w':=by
 have HN:=A0_.mk hn
 have HL:=A0_.mk hl
 have HA:=A0_.mk hA
 have HB:=A0_.mk hB
 clear hA hB hn hl
 go_enter Tryz.func43,Tryz.ntmps43
 go_wp2
 (try simp only [Act.put,sA_,sB_,sC_])
 go_loopg [17] (l.length + 1) (fun kq v17 w' => ∃ x : Int,v17 = .int .i64 x ∧ A0_ (x + (kq : Int) = (l.length : Int) + 1) ∧ A0_ (0 ≤ x ∧ x ≤ (l.length : Int) ∧ l.length ≤ 9223372036854775806) ∧ Drawn0 w w')
 case atStart => exact ⟨0,rfl,⟨by push_cast;omega⟩,⟨by have:=HN.out;omega⟩,Drawn0.refl _⟩
 case round =>
  obtain ⟨x,rfl,HK,HKN,⟨m1,rfl⟩⟩:=hrel
  by_cases ck : x < (l.length : Int)
  ·obtain ⟨g1,rfl⟩ : ∃ g1,gk = g1 + 1:=by
    cases gk with
    |zero => have:=HK.out;omega
    |succ g1 => exact ⟨g1,rfl⟩
   have p1 : 0 ≤ x:=HKN.out.1
   have q1 : x < (l.length : Int):=ck
   obtain ⟨ad1,A0,c0,e1,h1,h11,h12⟩:=at_L2 HA.out x p1 q1
   cases e1
   obtain ⟨ad2,B0,d0,e2,h2,h21,h22⟩:=at_L2 HB.out x p1 q1
   cases e2
   have HW:=A0_.mk (show wrap64 (x + 1) = x + 1 from IntWalk.wrap64_in _ (by have:=HKN.out;omega))
   have ckb : decide (x < (l.length : Int)) = true:=decide_eq_true q1
   have ckc : decide (0 ≤ x) = true:=decide_eq_true p1
   have HRL:=A0_.mk (show (rd_L2 l x).length ≤ 9223372036854775806 from HL.out _ (by
    have e : rd_L2 l x = l[x.toNat]'(by omega):=by unfold rd_L2;simp [List.getD_eq_getElem?_getD,List.getElem?_eq_getElem (show x.toNat < l.length by omega)]
    rw [e]
    exact List.getElem_mem _))
   replace p1:=eq_true p1
   replace q1:=eq_true q1
   clear ck
   go_wp2_with (go_at_call 44;(refine (eq63 HRL.out (Kd.C_drewN h12 m1) (Kd.C_drewN h22 m1)).mono ?_;rintro e w' ⟨rfl,⟨nd,rfl⟩⟩))
   go_roundg g1
   case measure => omega
   case rel => exact ⟨wrap64 (x + 1),rfl,⟨by rw [HW.out];have:=HK.out;push_cast at this;omega⟩,⟨by rw [HW.out];have:=HKN.out;have:=of_decide_eq_true ckb;omega⟩,by repeat (first|exact Drawn0.refl _|apply Drawn0.step)⟩
  ·have ckb : decide (x < (l.length : Int)) = false:=decide_eq_false ck
   clear ck
   go_wp2
   repeat (go_quiet (fail);try go_wp2)
   go_ret
   exact ⟨by simp,by repeat (first|exact Drawn0.refl _|apply Drawn0.step)⟩
set_option maxHeartbeats 4000000 in
set_option maxRecDepth 100000 in
theorem same_calls {w : World} {y0 : Int} {y1 : List Int} {y2 : List S108} {y3 y4 y5 : List Int} {y6 : List (List Int)} {y7 : List Int} {y8 : List S125} {y9 : List S59} {y10 : List ByteArray} {A1 A2 A3 A4 A5 A6 A7 A8 A9 A10 B1 B2 B3 B4 B5 B6 B7 B8 B9 B10 : Option Addr} {n1 n2 n3 n4 n5 n6 n7 n8 n9 n10 m1 m2 m3 m4 m5 m6 m7 m8 m9 m10 : Nat}
  (hA : CR w ⟨y0,y1,y2,y3,y4,y5,y6,y7,y8,y9,y10⟩ ⟨A1,A2,A3,A4,A5,A6,A7,A8,A9,A10,n1,n2,n3,n4,n5,n6,n7,n8,n9,n10⟩) (hB : CR w ⟨y0,y1,y2,y3,y4,y5,y6,y7,y8,y9,y10⟩ ⟨B1,B2,B3,B4,B5,B6,B7,B8,B9,B10,m1,m2,m3,m4,m5,m6,m7,m8,m9,m10⟩)
  (hl : y1.length ≤ 9223372036854775806 ∧ y2.length ≤ 9223372036854775806 ∧ y3.length ≤ 9223372036854775806 ∧ y4.length ≤ 9223372036854775806 ∧ y5.length ≤ 9223372036854775806 ∧ y6.length ≤ 9223372036854775806 ∧ y7.length ≤ 9223372036854775806 ∧ y8.length ≤ 9223372036854775806 ∧ y9.length ≤ 9223372036854775806 ∧ y10.length ≤ 9223372036854775806) (hj : ∀ r ∈ y6,r.length ≤ 9223372036854775806) :
  Calls Tryz.prog 16 #[.agg #[.int .i64 y0,.slice A1 y1.length n1,.slice A2 y2.length n2,.slice A3 y3.length n3,.slice A4 y4.length n4,.slice A5 y5.length n5,.slice A6 y6.length n6,.slice A7 y7.length n7,.slice A8 y8.length n8,.slice A9 y9.length n9,.slice A10 y10.length n10],.agg #[.int .i64 y0,.slice B1 y1.length m1,.slice B2 y2.length m2,.slice B3 y3.length m3,.slice B4 y4.length m4,.slice B5 y5.length m5,.slice B6 y6.length m6,.slice B7 y7.length m7,.slice B8 y8.length m8,.slice B9 y9.length m9,.slice B10 y10.length m10]] w fun e w' => e = .returned (.bool true) ∧ Below w.heap.size w w':=by
 obtain ⟨l1,l2,l3,l4,l5,l6,l7,l8,l9,l10⟩:=hl
 have HL1:=A0_.mk l1
 have HL2:=A0_.mk l2
 have HL3:=A0_.mk l3
 have HL4:=A0_.mk l4
 have HL5:=A0_.mk l5
 have HL6:=A0_.mk l6
 have HL7:=A0_.mk l7
 have HL8:=A0_.mk l8
 have HL9:=A0_.mk l9
 have HL10:=A0_.mk l10
 have HJ:=A0_.mk hj
 have HB0:=A0_.mk (show Below w.heap.size w ((w.alloc (.cells #[.int .i64 y0,.slice A1 y1.length n1,.slice A2 y2.length n2,.slice A3 y3.length n3,.slice A4 y4.length n4,.slice A5 y5.length n5,.slice A6 y6.length n6,.slice A7 y7.length n7,.slice A8 y8.length n8,.slice A9 y9.length n9,.slice A10 y10.length n10] 29)).alloc (.cells #[.int .i64 y0,.slice B1 y1.length m1,.slice B2 y2.length m2,.slice B3 y3.length m3,.slice B4 y4.length m4,.slice B5 y5.length m5,.slice B6 y6.length m6,.slice B7 y7.length m7,.slice B8 y8.length m8,.slice B9 y9.length m9,.slice B10 y10.length m10] 29)) from eA_ (eA_ (Below.refl _ _) _) _)
 have HA1:=A0_.mk (Kd.C_below hA.r1 HB0.out)
 have HB1:=A0_.mk (Kd.C_below hB.r1 HB0.out)
 have HA2:=A0_.mk (Kd.C_below hA.r2 HB0.out)
 have HB2:=A0_.mk (Kd.C_below hB.r2 HB0.out)
 have HA3:=A0_.mk (Kd.C_below hA.r3 HB0.out)
 have HB3:=A0_.mk (Kd.C_below hB.r3 HB0.out)
 have HA4:=A0_.mk (Kd.C_below hA.r4 HB0.out)
 have HB4:=A0_.mk (Kd.C_below hB.r4 HB0.out)
 have HA5:=A0_.mk (Kd.C_below hA.r5 HB0.out)
 have HB5:=A0_.mk (Kd.C_below hB.r5 HB0.out)
 have HA6:=A0_.mk (Kd.C_below hA.r6 HB0.out)
 have HB6:=A0_.mk (Kd.C_below hB.r6 HB0.out)
 have HA7:=A0_.mk (Kd.C_below hA.r7 HB0.out)
 have HB7:=A0_.mk (Kd.C_below hB.r7 HB0.out)
 have HA8:=A0_.mk (Kd.C_below hA.r8 HB0.out)
 have HB8:=A0_.mk (Kd.C_below hB.r8 HB0.out)
 have HA9:=A0_.mk (Kd.C_below hA.r9 HB0.out)
 have HB9:=A0_.mk (Kd.C_below hB.r9 HB0.out)
 have HA10:=A0_.mk (Kd.C_below hA.r10 HB0.out)
 have HB10:=A0_.mk (Kd.C_below hB.r10 HB0.out)
 clear l1 l2 l3 l4 l5 l6 l7 l8 l9 l10 hj hA hB
 go_enter Tryz.func16,Tryz.ntmps16
 go_upto_region 1 with (fail)
 have hc:=bA_ (blk_new w (.cells #[.int .i64 y0,.slice A1 y1.length n1,.slice A2 y2.length n2,.slice A3 y3.length n3,.slice A4 y4.length n4,.slice A5 y5.length n5,.slice A6 y6.length n6,.slice A7 y7.length n7,.slice A8 y8.length n8,.slice A9 y9.length n9,.slice A10 y10.length n10] 29)) (.cells #[.int .i64 y0,.slice B1 y1.length m1,.slice B2 y2.length m2,.slice B3 y3.length m3,.slice B4 y4.length m4,.slice B5 y5.length m5,.slice B6 y6.length m6,.slice B7 y7.length m7,.slice B8 y8.length m8,.slice B9 y9.length m9,.slice B10 y10.length m10] 29)
 have hd:=blk_new (w.alloc (.cells #[.int .i64 y0,.slice A1 y1.length n1,.slice A2 y2.length n2,.slice A3 y3.length n3,.slice A4 y4.length n4,.slice A5 y5.length n5,.slice A6 y6.length n6,.slice A7 y7.length n7,.slice A8 y8.length n8,.slice A9 y9.length n9,.slice A10 y10.length n10] 29)) (.cells #[.int .i64 y0,.slice B1 y1.length m1,.slice B2 y2.length m2,.slice B3 y3.length m3,.slice B4 y4.length m4,.slice B5 y5.length m5,.slice B6 y6.length m6,.slice B7 y7.length m7,.slice B8 y8.length m8,.slice B9 y9.length m9,.slice B10 y10.length m10] 29)
 simp only [World.size_alloc] at hd
 generalize (w.alloc (.cells #[.int .i64 y0,.slice A1 y1.length n1,.slice A2 y2.length n2,.slice A3 y3.length n3,.slice A4 y4.length n4,.slice A5 y5.length n5,.slice A6 y6.length n6,.slice A7 y7.length n7,.slice A8 y8.length n8,.slice A9 y9.length n9,.slice A10 y10.length n10] 29)).alloc (.cells #[.int .i64 y0,.slice B1 y1.length m1,.slice B2 y2.length m2,.slice B3 y3.length m3,.slice B4 y4.length m4,.slice B5 y5.length m5,.slice B6 y6.length m6,.slice B7 y7.length m7,.slice B8 y8.length m8,.slice B9 y9.length m9,.slice B10 y10.length m10] 29) = w2 at hc hd HA1 HB1 HA2 HB2 HA3 HB3 HA4 HB4 HA5 HB5 HA6 HB6 HA7 HB7 HA8 HB8 HA9 HB9 HA10 HB10 HB0 ⊢
 generalize hgs : w.heap.size = g at hc hd HB0 ⊢
 have HB:=A0_.mk HB0.out
 clear HB0
 have c0 : w2.cell? ⟨g,0,none⟩ = some (.int .i64 y0):=bC_ hc 0
 have c1 : w2.cell? ⟨g,1,none⟩ = some (.slice A1 y1.length n1):=bC_ hc 1
 have c2 : w2.cell? ⟨g,2,none⟩ = some (.slice A2 y2.length n2):=bC_ hc 2
 have c3 : w2.cell? ⟨g,3,none⟩ = some (.slice A3 y3.length n3):=bC_ hc 3
 have c4 : w2.cell? ⟨g,4,none⟩ = some (.slice A4 y4.length n4):=bC_ hc 4
 have c5 : w2.cell? ⟨g,5,none⟩ = some (.slice A5 y5.length n5):=bC_ hc 5
 have c6 : w2.cell? ⟨g,6,none⟩ = some (.slice A6 y6.length n6):=bC_ hc 6
 have c7 : w2.cell? ⟨g,7,none⟩ = some (.slice A7 y7.length n7):=bC_ hc 7
 have c8 : w2.cell? ⟨g,8,none⟩ = some (.slice A8 y8.length n8):=bC_ hc 8
 have c9 : w2.cell? ⟨g,9,none⟩ = some (.slice A9 y9.length n9):=bC_ hc 9
 have c10 : w2.cell? ⟨g,10,none⟩ = some (.slice A10 y10.length n10):=bC_ hc 10
 have d0 : w2.cell? ⟨g + 1,0,none⟩ = some (.int .i64 y0):=bC_ hd 0
 have d1 : w2.cell? ⟨g + 1,1,none⟩ = some (.slice B1 y1.length m1):=bC_ hd 1
 have d2 : w2.cell? ⟨g + 1,2,none⟩ = some (.slice B2 y2.length m2):=bC_ hd 2
 have d3 : w2.cell? ⟨g + 1,3,none⟩ = some (.slice B3 y3.length m3):=bC_ hd 3
 have d4 : w2.cell? ⟨g + 1,4,none⟩ = some (.slice B4 y4.length m4):=bC_ hd 4
 have d5 : w2.cell? ⟨g + 1,5,none⟩ = some (.slice B5 y5.length m5):=bC_ hd 5
 have d6 : w2.cell? ⟨g + 1,6,none⟩ = some (.slice B6 y6.length m6):=bC_ hd 6
 have d7 : w2.cell? ⟨g + 1,7,none⟩ = some (.slice B7 y7.length m7):=bC_ hd 7
 have d8 : w2.cell? ⟨g + 1,8,none⟩ = some (.slice B8 y8.length m8):=bC_ hd 8
 have d9 : w2.cell? ⟨g + 1,9,none⟩ = some (.slice B9 y9.length m9):=bC_ hd 9
 have d10 : w2.cell? ⟨g + 1,10,none⟩ = some (.slice B10 y10.length m10):=bC_ hd 10
 clear hc hd
 go_wp2_with (first|(go_at_call_of 44 (Value.slice A1 y1.length n1);refine (eq63 HL1.out (by (with_reducible repeat (first|apply Kd.C_drewN|apply Kd.C_drew));exact HA1.out) (by (with_reducible repeat (first|apply Kd.C_drewN|apply Kd.C_drew));exact HB1.out)).mono ?_;rintro e w' ⟨rfl,⟨nd1,rfl⟩⟩)|(go_at_call_of 45 (Value.slice A2 y2.length n2);refine (eq64 HL2.out (by (with_reducible repeat (first|apply Kd.C_drewN|apply Kd.C_drew));exact HA2.out) (by (with_reducible repeat (first|apply Kd.C_drewN|apply Kd.C_drew));exact HB2.out)).mono ?_;rintro e w' ⟨rfl,⟨nd2,rfl⟩⟩)|(go_at_call_of 44 (Value.slice A3 y3.length n3);refine (eq63 HL3.out (by (with_reducible repeat (first|apply Kd.C_drewN|apply Kd.C_drew));exact HA3.out) (by (with_reducible repeat (first|apply Kd.C_drewN|apply Kd.C_drew));exact HB3.out)).mono ?_;rintro e w' ⟨rfl,⟨nd3,rfl⟩⟩)|(go_at_call_of 44 (Value.slice A4 y4.length n4);refine (eq63 HL4.out (by (with_reducible repeat (first|apply Kd.C_drewN|apply Kd.C_drew));exact HA4.out) (by (with_reducible repeat (first|apply Kd.C_drewN|apply Kd.C_drew));exact HB4.out)).mono ?_;rintro e w' ⟨rfl,⟨nd4,rfl⟩⟩)|(go_at_call_of 44 (Value.slice A5 y5.length n5);refine (eq63 HL5.out (by (with_reducible repeat (first|apply Kd.C_drewN|apply Kd.C_drew));exact HA5.out) (by (with_reducible repeat (first|apply Kd.C_drewN|apply Kd.C_drew));exact HB5.out)).mono ?_;rintro e w' ⟨rfl,⟨nd5,rfl⟩⟩)|(go_at_call_of 43 (Value.slice A6 y6.length n6);refine (eq62 HL6.out HJ.out (by (with_reducible repeat (first|apply Kd.C_drewN|apply Kd.C_drew));exact HA6.out) (by (with_reducible repeat (first|apply Kd.C_drewN|apply Kd.C_drew));exact HB6.out)).mono ?_;rintro e w' ⟨rfl,⟨nd6,rfl⟩⟩)|(go_at_call_of 44 (Value.slice A7 y7.length n7);refine (eq63 HL7.out (by (with_reducible repeat (first|apply Kd.C_drewN|apply Kd.C_drew));exact HA7.out) (by (with_reducible repeat (first|apply Kd.C_drewN|apply Kd.C_drew));exact HB7.out)).mono ?_;rintro e w' ⟨rfl,⟨nd7,rfl⟩⟩)|(go_at_call_of 46 (Value.slice A8 y8.length n8);refine (eq65 HL8.out (by (with_reducible repeat (first|apply Kd.C_drewN|apply Kd.C_drew));exact HA8.out) (by (with_reducible repeat (first|apply Kd.C_drewN|apply Kd.C_drew));exact HB8.out)).mono ?_;rintro e w' ⟨rfl,⟨nd8,rfl⟩⟩)|(go_at_call_of 47 (Value.slice A9 y9.length n9);refine (eq66 HL9.out (by (with_reducible repeat (first|apply Kd.C_drewN|apply Kd.C_drew));exact HA9.out) (by (with_reducible repeat (first|apply Kd.C_drewN|apply Kd.C_drew));exact HB9.out)).mono ?_;rintro e w' ⟨rfl,⟨nd9,rfl⟩⟩)|(go_at_call_of 48 (Value.slice A10 y10.length n10);refine (eq67 HL10.out (by (with_reducible repeat (first|apply Kd.C_drewN|apply Kd.C_drew));exact HA10.out) (by (with_reducible repeat (first|apply Kd.C_drewN|apply Kd.C_drew));exact HB10.out)).mono ?_;rintro e w' ⟨rfl,⟨nd10,rfl⟩⟩))
 go_ret
 subst hgs
 exact ⟨by simp,by (with_reducible repeat (first|apply eN_|apply eD_));exact HB.out⟩
end Go.Proofs.YtdmngdohlobogaaGreatDoor.Asc
end
section
namespace Go.Proofs.YtdmngdohlobogaaGreatDoor.Asc
open Go Go.RowKit Go.Proofs.YtdmngdohlobogaaGreatDoorW.PrintWords
set_option linter.unusedVariables false
def digN : List UInt8 → Nat
 |[] => 0
 |c :: l => if 48 ≤ c.toNat ∧ c.toNat ≤ 57 then digN l + 1 else 0
def numW (s : ByteArray) (k : Nat) : Option (Int × Nat) :=
 match Lib.parseUintB 31 (s.extract k (k + digN (s.data.toList.drop k))).data.toList with
 |.ok u => if bt s (k : Int) = 48 ∧ 1 < digN (s.data.toList.drop k) then none else some ((u : Int),k + digN (s.data.toList.drop k))
 |_ => none
theorem digN_le : ∀ l : List UInt8,digN l ≤ l.length
 |[] => Nat.le_refl _
 |c :: l => by
  have:=digN_le l
  unfold digN
  split
  ·simp only [List.length_cons];omega
  ·omega
theorem numW_le {s : ByteArray} {k : Nat} {n : Int} {e : Nat} (hk : k ≤ s.size) (h : numW s k = some (n,e)) : k < e ∧ e ≤ s.size:=by
 unfold numW at h
 split at h
 ·rename_i u hu
  split at h
  ·cases h
  ·injection h with h
   injection h with h1 h2
   have h3:=digN_le (s.data.toList.drop k)
   rw [List.length_drop,data_length] at h3
   have h4 : digN (s.data.toList.drop k) ≠ 0:=by
    intro h0
    rw [h0,Nat.add_zero] at hu
    have e0 : (s.extract k k).data.toList = []:=by rw [Stim.extract_list,Nat.sub_self,List.take_zero]
    rw [e0] at hu
    exact absurd hu (by simp [Lib.parseUintB])
   omega
 ·cases h
def numsB (l : ByteArray) (most : Nat) : Nat → Nat → List Int → Option (List Int)
 |0,_,_ => none
 |f + 1,k,out => match numW l k with
  |none => none
  |some (n,e) => if e < l.size ∧ l.data.toList[e]? ≠ some 32 then none else if out.length = most then none else if e = l.size then some (out ++ [n]) else numsB l most f (e + 1) (out ++ [n])
def rowB (s : ByteArray) (p least most : Nat) : Option (List Int × Nat) :=
 (lineF s p).bind fun q => (numsB q.1 most (q.1.size + 2) 0 []).bind fun ns => if ns.length < least then none else some (ns,q.2)
def listB (s : ByteArray) : Nat → Nat → Except Nat (List Int × Nat)
 |0,p => .ok ([],p)
 |n + 1,p => match rowB s p 1 1 with
  |none => .error p
  |some (x,q) => match listB s n q with
   |.error e => .error e
   |.ok (l,r) => .ok (x.getD 0 0 :: l,r)
def latchB (at_ : Nat) (x : List Int) : S108:=⟨2 * ((at_ : Int) + 1),x.getD 0 0,x.getD 1 0⟩
def latchesB (s : ByteArray) : Nat → Nat → Nat → Except Nat (List S108 × Nat)
 |_,0,p => .ok ([],p)
 |a,n + 1,p => match rowB s p 1 2 with
  |none => .error p
  |some (x,q) => match latchesB s (a + 1) n q with
   |.error e => .error e
   |.ok (l,r) => .ok (latchB a x :: l,r)
def sizesB (s : ByteArray) : Nat → Nat → Except Nat (List Int × Nat)
 |0,p => .ok ([],p)
 |n + 1,p => match rowB s p 1 1 with
  |none => .error p
  |some (x,q) => if 16384 < x.getD 0 0 then .error p else match sizesB s n q with
   |.error e => .error e
   |.ok (l,r) => .ok (x.getD 0 0 :: l,r)
def justB (s : ByteArray) : List Int → Nat → Except Nat (List (List Int) × Nat)
 |[],p => .ok ([],p)
 |k :: ks,p => match listB s k.toNat p with
  |.error e => .error e
  |.ok (x,q) => match justB s ks q with
   |.error e => .error e
   |.ok (l,r) => .ok (x :: l,r)
end Go.Proofs.YtdmngdohlobogaaGreatDoor.Asc
end
