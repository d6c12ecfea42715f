import Derived.Test.YtdmngdohlobogaaGreatDoorYM27
import Derived.Test.YtdmngdohlobogaaGreatDoorYAsc1
import Derived.Laws.DeepStrings4
import Derived.Test.YtdmngdohlobogaaGreatDoorYAsc0
section
namespace Go.Proofs.YtdmngdohlobogaaGreatDoor.Asc
open Go Go.RowKit Go.Proofs.YtdmngdohlobogaaGreatDoorW.PrintWords Go.Proofs.YtdmngdohlobogaaGreatDoorW.PrintLast Go.Proofs.YtdmngdohlobogaaGreatDoorW.PrintMore
set_option linter.unusedVariables false
set_option linter.unusedSimpArgs false
attribute [local go_sem high] eqA40
theorem info32 : (Tryz.prog.info? 32).map (·.size) = some 2:=by kernel_rfl
set_option maxHeartbeats 1000000 in
theorem given_calls {w : World} {s : ByteArray} {k : Nat} (hs : s.size ≤ 262144) (hk : k ≤ s.size) :
  Calls Tryz.prog 81 #[.string s,.int .i64 (k : Int)] w fun e w' => e = .returned (.agg #[.int .i64 0,.int .i64 0]) ∧ Below w.heap.size w w':=by
 have d1 : decide ((262144 : Int) < (s.size : Int)) = false:=decide_eq_false (by omega)
 have d2 : decide ((k : Int) < 0) = false:=decide_eq_false (by omega)
 have d3 : decide (s.size < k) = false:=decide_eq_false (by omega)
 clear hs hk
 go_enter Tryz.func81,Tryz.ntmps81
 go_wp2
 refine bodyPost_ret (results_cell_row rfl _ _ w.heap.size 32 #[.int .i64 0,.int .i64 0] (0,0) _ rfl (blk_new w _) Tryz.underlying32 rfl info32) rfl ?_
 exact ⟨rfl,eA_ (Below.refl _ _) _⟩
def PuEnd (t : ByteArray) (e : Ending) : Prop:=match Lib.parseUintB 31 t.data.toList with
 |.ok u => e = .returned (.tuple #[.int .u64 (u : Int),.nilIface])
 |_ => ∃ (x : Int) (p : Value),e = .returned (.tuple #[.int .u64 x,.iface 174 p])
theorem pu_calls {w : World} {t : ByteArray} (hG : GV w) (hs : t.size ≤ 281474976710656) :
  Calls Tryz.prog 107 #[.string t,.int .i64 10,.int .i64 31] w fun e w' => PuEnd t e ∧ Below w.heap.size w w':=by
 unfold PuEnd
 cases hp : Lib.parseUintB 31 t.data.toList with
 |ok u =>
  have hu:=Lib.parseUintB_le hp
  exact (AnyP31.ParseUint_10_at31_ok Tryz.laysPu14 t (by omega) u hp w).mono fun e w' ⟨he,hw⟩ => ⟨he,by rcases hw with rfl|rfl;exact Below.refl _ _;exact Lib.bytesWorld_below _ _ _⟩
 |range =>
  obtain ⟨tp,p,hv⟩:=hG.rng
  exact (AnyP31.ParseUint_10_at31_range_var Tryz.laysPu14 t hs hp tp p w hv).mono fun e w' ⟨N,he,_,_,hw⟩ => ⟨⟨_,_,he⟩,hw⟩
 |_ =>
  obtain ⟨tp,p,hv⟩:=hG.syn
  exact (AnyP31.ParseUint_10_at31_syntax_var Tryz.laysPu14 t hs hp tp p w hv).mono fun e w' ⟨N,he,_,_,hw⟩ => ⟨⟨_,_,he⟩,hw⟩
def NumV (s : ByteArray) (k : Nat) : Value:=match numW s k with
 |none => .tuple #[.int .i64 0,.int .i64 0,.agg #[.int .i64 (k : Int),.int .i64 20]]
 |some (n,e) => .tuple #[.int .i64 n,.int .i64 (e : Int),.agg #[.int .i64 0,.int .i64 0]]
theorem numV_bad {s : ByteArray} {k : Nat} (h : ∀ u,Lib.parseUintB 31 (s.extract k (k + digN (s.data.toList.drop k))).data.toList ≠ .ok u) : NumV s k = .tuple #[.int .i64 0,.int .i64 0,.agg #[.int .i64 (k : Int),.int .i64 20]]:=by
 have : numW s k = none:=by
  unfold numW
  split
  ·rename_i u hu
   exact absurd hu (h u)
  ·rfl
 unfold NumV
 rw [this]
theorem numV_ok {s : ByteArray} {k u : Nat} (h : Lib.parseUintB 31 (s.extract k (k + digN (s.data.toList.drop k))).data.toList = .ok u) : NumV s k = if bt s (k : Int) = 48 ∧ 1 < digN (s.data.toList.drop k) then .tuple #[.int .i64 0,.int .i64 0,.agg #[.int .i64 (k : Int),.int .i64 20]] else .tuple #[.int .i64 (u : Int),.int .i64 ((k + digN (s.data.toList.drop k) : Nat) : Int),.agg #[.int .i64 0,.int .i64 0]]:=by
 unfold NumV numW
 rw [h]
 dsimp only
 split
 ·rename_i h0
  split at h0
  ·rename_i h1
   rw [if_pos h1]
  ·cases h0
 ·rename_i n e h0
  split at h0
  ·cases h0
  ·rename_i h1
   rw [if_neg h1]
   injection h0 with h0
   injection h0 with h2 h3
   rw [← h2,← h3]
theorem number_ret {w W : World} {tm : Array Value} {n e a c : Int} (h4 : tm.getD 4 undef = .int .i64 n) (h5 : tm.getD 5 undef = .int .i64 e) (h6 : tm.getD 6 undef = .pointer (some ⟨w.heap.size,0,none⟩))
  (hF : W.heap[w.heap.size]? = some (.cells #[.int .i64 a,.int .i64 c] 32 (0,0))) (hB : Below w.heap.size w W) :
  bodyPost Tryz.prog Tryz.f80 (fun x w' => x = .returned (.tuple #[.int .i64 n,.int .i64 e,.agg #[.int .i64 a,.int .i64 c]]) ∧ Below w.heap.size w w') .ret { tmps:=tm,defers:=[] } W:=by
 have h:=results_list (P:=Tryz.prog) (fn:=Tryz.f80) (tmps:=tm) (w:=W) (rs:=[.tmp 4,.tmp 5,.cell 6 32]) rfl (by simp) (.tmp (.tmp (.cell w.heap.size 32 _ (0,0) _ h6 hF Tryz.underlying32 rfl info32 .nil)))
 rw [h4,h5] at h
 exact bodyPost_ret h rfl ⟨rfl,hB⟩
set_option maxHeartbeats 4000000 in
set_option maxRecDepth 100000 in
theorem numberW_calls {w : World} {s : ByteArray} {k : Nat} (hG : GV w) (hs : s.size ≤ 262144) (hk : k ≤ s.size) :
  Calls Tryz.prog 80 #[.string s,.int .i64 (k : Int)] w fun e w' => e = .returned (NumV s k) ∧ Below w.heap.size w w':=by
 have hdl:=digN_le (s.data.toList.drop k)
 rw [List.length_drop,data_length] at hdl
 obtain ⟨D,hD⟩ : ∃ D,digN (s.data.toList.drop k) = D:=⟨_,rfl⟩
 rw [hD] at hdl
 have HG:=A0_.mk hG
 have HS:=A0_.mk hs
 have HK:=A0_.mk hk
 have HD:=A0_.mk hD
 have HDL:=A0_.mk hdl
 have HWZ:=A0_.mk (show (s.extract k (k + D)).size ≤ 281474976710656 by rw [ByteArray.size_extract];omega)
 clear hG hs hk hD hdl
 obtain ⟨V,hV⟩ : ∃ V,NumV s k = V:=⟨_,rfl⟩
 rw [hV]
 have HVV:=A0_.mk hV
 clear hV
 go_enter Tryz.func80,Tryz.ntmps80
 go_upto_region 4 with (go_at_call 81;refine (given_calls HS.out HK.out).mono ?_;rintro e w1 ⟨rfl,hb⟩;have HB1:=A0_.mk hb;clear hb)
 have hf0:=(HB1.out.block _ (blk_lt (blk_new w (.cells #[.int .i64 0,.int .i64 0] 32)))).trans (blk_new w (.cells #[.int .i64 0,.int .i64 0] 32))
 have hf:=bA_ hf0 (.cells #[.int .i64 0,.int .i64 0] 32)
 have hb0 : Below w.heap.size w (w.alloc (.cells #[.int .i64 0,.int .i64 0] 32)):=eA_ (Below.refl _ _) _
 have HB2:=A0_.mk (eA_ (hb0.trans (HB1.out.mono hb0.size)) (.cells #[.int .i64 0,.int .i64 0] 32))
 clear hf0 hb0 HB1
 generalize w1.alloc (.cells #[.int .i64 0,.int .i64 0] 32) = w2 at hf HB2 ⊢
 generalize w1.heap.size = g7
 have HF2:=A0_.mk hf
 clear hf
 have HPU:=A0_.mk (pu_calls (t:=s.extract k (k + D)) (GV_below HG.out HB2.out) HWZ.out)
 go_wp2
 (try simp only [Act.put,sA_,sB_,sC_])
 go_loopg [8] (s.size + 1) (fun kq v8 w' => ∃ i : Nat,v8 = .int .i64 (i : Int) ∧ A0_ (i + kq = s.size + 1 + k) ∧ A0_ (k ≤ i ∧ i ≤ s.size) ∧ A0_ ((i - k) + digN (s.data.toList.drop i) = D) ∧ w' = w2)
 case atStart => exact ⟨k,rfl,⟨by have:=HK.out;omega⟩,⟨Nat.le_refl _,HK.out⟩,⟨by rw [HD.out];omega⟩,rfl⟩
 case round =>
  obtain ⟨i,rfl,HI,HKI,HDI,rfl⟩:=hrel
  by_cases ck : i < s.size
  ·have hg : s.data.toList.drop i = s[i]'ck :: s.data.toList.drop (i + 1):=List.drop_eq_getElem_cons (by rw [data_length];exact ck)
   have ckb : decide ((i : Int) < (s.size : Int)) = true:=decide_eq_true (by omega)
   have ci0 : (i : Int) < (s.size : Int):=by omega
   have hwi : IntKind.i64.wrap ((i : Int) + 1) = ((i + 1 : Nat) : Int):=by have:=HS.out;rw [IntKind.wrap_i64];omega
   by_cases h1 : 48 ≤ (s[i]'ck).toNat
   ·have h1b : decide ((48 : Int) ≤ (((s[i]'ck).toNat : Nat) : Int)) = true:=decide_eq_true (by omega)
    by_cases h2 : (s[i]'ck).toNat ≤ 57
    ·have h2b : decide ((((s[i]'ck).toNat : Nat) : Int) ≤ 57) = true:=decide_eq_true (by omega)
     have HD3:=A0_.mk (show (i + 1 - k) + digN (s.data.toList.drop (i + 1)) = D by
      have h3:=HDI.out
      rw [hg,digN,if_pos ⟨h1,h2⟩] at h3
      have:=HKI.out
      omega)
     obtain ⟨g1,rfl⟩ : ∃ g1,gk = g1 + 1:=by
      cases gk with
      |zero => have:=HI.out;omega
      |succ g1 => exact ⟨g1,rfl⟩
     clear hg
     go_wp2
     go_roundg g1
     case measure => omega
     case rel => exact ⟨i + 1,by push_cast;rfl,⟨by have:=HI.out;omega⟩,⟨by have:=HKI.out;omega⟩,HD3,rfl⟩
    ·have h2b : decide ((((s[i]'ck).toNat : Nat) : Int) ≤ 57) = false:=decide_eq_false (by omega)
     have hz : digN (s.data.toList.drop i) = 0:=by rw [hg,digN,if_neg (fun h => h2 h.2)]
     rw [hz] at HDI
     clear hg hz
     have hi : i = k + D:=by have:=HDI.out;have:=HKI.out;omega
     subst hi
     clear HI HKI HDI
     have ck1 : k ≤ k + D:=by omega
     have ck2 : k + D ≤ s.size:=by have:=HDL.out;have:=HK.out;omega
     cases hp : Lib.parseUintB 31 (s.extract k (k + D)).data.toList with
     |ok u =>
      have HP:=A0_.mk (HPU.out.mono (fun e w' h => (⟨by have h1:=h.1;unfold PuEnd at h1;rw [hp] at h1;exact h1,h.2⟩ : e = .returned (.tuple #[.int .u64 (u : Int),.nilIface]) ∧ Below wr.heap.size wr w')))
      have hNV:=numV_ok (s:=s) (k:=k) (u:=u) (by rw [HD.out];exact hp)
      rw [HD.out] at hNV
      have HU:=A0_.mk (Lib.parseUintB_le hp)
      have hD0 : D ≠ 0:=by
       intro h0
       rw [h0,Nat.add_zero] at hp
       have e0 : (s.extract k k).data.toList = []:=by rw [Stim.extract_list,Nat.sub_self,List.take_zero]
       rw [e0] at hp
       exact absurd hp (by simp [Lib.parseUintB])
      have hkl : k < s.size:=by have:=HDL.out;omega
      have hbt : bt s (k : Int) = (((s[k]'hkl).toNat : Nat) : Int):=by
       unfold bt
       rw [dif_pos (by simpa using hkl)]
       simp
      rw [hbt] at hNV
      have HNV:=A0_.mk hNV
      have ci1 : (k : Int) < (s.size : Int):=by omega
      have HD0:=A0_.mk hD0
      have hwk : IntKind.i64.wrap ((k : Int) + 1) = ((k + 1 : Nat) : Int):=by have:=HS.out;rw [IntKind.wrap_i64];omega
      have hwu : IntKind.i64.wrap (u : Int) = (u : Int):=by have:=HU.out;rw [IntKind.wrap_i64];omega
      clear hp hNV hbt hD0 HPU
      by_cases h48 : (s[k]'hkl).toNat = 48
      ·have b48 : ((((s[k]'hkl).toNat : Nat) : Int) == 48) = true:=by rw [h48];rfl
       by_cases h1 : 1 < D
       ·have hn:=HVV.out.symm.trans HNV.out
        rw [if_pos ⟨by omega,h1⟩] at hn
        subst hn
        clear HNV HVV
        go_upto_region 8 with (go_at_call 107;refine HP.out.mono ?_;rintro e w3 ⟨rfl,hb⟩;have HB3:=A0_.mk (HB2.out.trans (hb.mono HB2.out.size));have HF3:=A0_.mk ((hb.block _ (blk_lt HF2.out)).trans HF2.out);clear hb)
        have d1 : decide ((k : Int) + 1 < (k : Int) + (D : Int)) = true:=decide_eq_true (by omega)
        have d2 : decide (k + 1 < k + D) = true:=decide_eq_true (by omega)
        have c0 : w3.cell? ⟨w.heap.size,0,none⟩ = some (.int .i64 0):=bC_ HF3.out 0
        have c1 : w3.cell? ⟨w.heap.size,1,none⟩ = some (.int .i64 0):=bC_ HF3.out 1
        have z0:=bF_ HF3.out 0
        have z1:=bF_ HF3.out 1
        go_wp2
        exact number_ret (n:=0) (e:=0) (a:=(k : Int)) (c:=20) rfl rfl rfl (blk_put (cs:=#[.int .i64 (k : Int),.int .i64 0]) (blk_put (cs:=#[.int .i64 0,.int .i64 0]) HF3.out 0 _ rfl) 1 _ rfl) (eS_ (eS_ HB3.out (Nat.le_refl _)) (Nat.le_refl _))
       ·have hn:=HVV.out.symm.trans HNV.out
        rw [if_neg (fun h => h1 h.2)] at hn
        subst hn
        clear HNV HVV
        go_upto_region 8 with (go_at_call 107;refine HP.out.mono ?_;rintro e w3 ⟨rfl,hb⟩;have HB3:=A0_.mk (HB2.out.trans (hb.mono HB2.out.size));have HF3:=A0_.mk ((hb.block _ (blk_lt HF2.out)).trans HF2.out);clear hb)
        have d1 : decide ((k : Int) + 1 < (k : Int) + (D : Int)) = false:=decide_eq_false (by omega)
        have d2 : decide (k + 1 < k + D) = false:=decide_eq_false (by omega)
        have c0 : w3.cell? ⟨w.heap.size,0,none⟩ = some (.int .i64 0):=bC_ HF3.out 0
        have c1 : w3.cell? ⟨w.heap.size,1,none⟩ = some (.int .i64 0):=bC_ HF3.out 1
        have z0:=bF_ HF3.out 0
        have z1:=bF_ HF3.out 1
        go_wp2
        exact number_ret (n:=(u : Int)) (e:=((k + D : Nat) : Int)) (a:=0) (c:=0) rfl rfl rfl (blk_put (cs:=#[.int .i64 0,.int .i64 0]) (blk_put (cs:=#[.int .i64 0,.int .i64 0]) HF3.out 0 _ rfl) 1 _ rfl) (eS_ (eS_ HB3.out (Nat.le_refl _)) (Nat.le_refl _))
      ·have b48 : ((((s[k]'hkl).toNat : Nat) : Int) == 48) = false:=beq_eq_false_iff_ne.2 (by omega)
       have hn:=HVV.out.symm.trans HNV.out
       rw [if_neg (fun h => h48 (by omega))] at hn
       subst hn
       clear HNV HVV
       go_upto_region 8 with (go_at_call 107;refine HP.out.mono ?_;rintro e w3 ⟨rfl,hb⟩;have HB3:=A0_.mk (HB2.out.trans (hb.mono HB2.out.size));have HF3:=A0_.mk ((hb.block _ (blk_lt HF2.out)).trans HF2.out);clear hb)
       have c0 : w3.cell? ⟨w.heap.size,0,none⟩ = some (.int .i64 0):=bC_ HF3.out 0
       have c1 : w3.cell? ⟨w.heap.size,1,none⟩ = some (.int .i64 0):=bC_ HF3.out 1
       have z0:=bF_ HF3.out 0
       have z1:=bF_ HF3.out 1
       go_wp2
       exact number_ret (n:=(u : Int)) (e:=((k + D : Nat) : Int)) (a:=0) (c:=0) rfl rfl rfl (blk_put (cs:=#[.int .i64 0,.int .i64 0]) (blk_put (cs:=#[.int .i64 0,.int .i64 0]) HF3.out 0 _ rfl) 1 _ rfl) (eS_ (eS_ HB3.out (Nat.le_refl _)) (Nat.le_refl _))
     |_ =>
      have HP:=A0_.mk (HPU.out.mono (fun e w' h => (⟨by have h1:=h.1;unfold PuEnd at h1;rw [hp] at h1;exact h1,h.2⟩ : (∃ (x : Int) (p : Value),e = .returned (.tuple #[.int .u64 x,.iface 174 p])) ∧ Below wr.heap.size wr w')))
      have hn:=HVV.out.symm.trans (numV_bad (s:=s) (k:=k) (fun u => by rw [HD.out,hp];intro h;cases h))
      subst hn
      clear hp HPU HVV
      go_upto_region 8 with (go_at_call 107;refine HP.out.mono ?_;rintro e w3 ⟨⟨x,p,rfl⟩,hb⟩;have HB3:=A0_.mk (HB2.out.trans (hb.mono HB2.out.size));have HF3:=A0_.mk ((hb.block _ (blk_lt HF2.out)).trans HF2.out);clear hb)
      have c0 : w3.cell? ⟨w.heap.size,0,none⟩ = some (.int .i64 0):=bC_ HF3.out 0
      have c1 : w3.cell? ⟨w.heap.size,1,none⟩ = some (.int .i64 0):=bC_ HF3.out 1
      have z0:=bF_ HF3.out 0
      have z1:=bF_ HF3.out 1
      go_wp2
      exact number_ret (n:=0) (e:=0) (a:=(k : Int)) (c:=20) rfl rfl rfl (blk_put (cs:=#[.int .i64 (k : Int),.int .i64 0]) (blk_put (cs:=#[.int .i64 0,.int .i64 0]) HF3.out 0 _ rfl) 1 _ rfl) (eS_ (eS_ HB3.out (Nat.le_refl _)) (Nat.le_refl _))
   ·have h1b : decide ((48 : Int) ≤ (((s[i]'ck).toNat : Nat) : Int)) = false:=decide_eq_false (by omega)
    have hz : digN (s.data.toList.drop i) = 0:=by rw [hg,digN,if_neg (fun h => h1 h.1)]
    rw [hz] at HDI
    clear hg hz
    have hi : i = k + D:=by have:=HDI.out;have:=HKI.out;omega
    subst hi
    clear HI HKI HDI
    have ck1 : k ≤ k + D:=by omega
    have ck2 : k + D ≤ s.size:=by have:=HDL.out;have:=HK.out;omega
    cases hp : Lib.parseUintB 31 (s.extract k (k + D)).data.toList with
    |ok u =>
     have HP:=A0_.mk (HPU.out.mono (fun e w' h => (⟨by have h1:=h.1;unfold PuEnd at h1;rw [hp] at h1;exact h1,h.2⟩ : e = .returned (.tuple #[.int .u64 (u : Int),.nilIface]) ∧ Below wr.heap.size wr w')))
     have hNV:=numV_ok (s:=s) (k:=k) (u:=u) (by rw [HD.out];exact hp)
     rw [HD.out] at hNV
     have HU:=A0_.mk (Lib.parseUintB_le hp)
     have hD0 : D ≠ 0:=by
      intro h0
      rw [h0,Nat.add_zero] at hp
      have e0 : (s.extract k k).data.toList = []:=by rw [Stim.extract_list,Nat.sub_self,List.take_zero]
      rw [e0] at hp
      exact absurd hp (by simp [Lib.parseUintB])
     have hkl : k < s.size:=by have:=HDL.out;omega
     have hbt : bt s (k : Int) = (((s[k]'hkl).toNat : Nat) : Int):=by
      unfold bt
      rw [dif_pos (by simpa using hkl)]
      simp
     rw [hbt] at hNV
     have HNV:=A0_.mk hNV
     have ci1 : (k : Int) < (s.size : Int):=by omega
     have HD0:=A0_.mk hD0
     have hwk : IntKind.i64.wrap ((k : Int) + 1) = ((k + 1 : Nat) : Int):=by have:=HS.out;rw [IntKind.wrap_i64];omega
     have hwu : IntKind.i64.wrap (u : Int) = (u : Int):=by have:=HU.out;rw [IntKind.wrap_i64];omega
     clear hp hNV hbt hD0 HPU
     by_cases h48 : (s[k]'hkl).toNat = 48
     ·have b48 : ((((s[k]'hkl).toNat : Nat) : Int) == 48) = true:=by rw [h48];rfl
      by_cases h1 : 1 < D
      ·have hn:=HVV.out.symm.trans HNV.out
       rw [if_pos ⟨by omega,h1⟩] at hn
       subst hn
       clear HNV HVV
       go_upto_region 8 with (go_at_call 107;refine HP.out.mono ?_;rintro e w3 ⟨rfl,hb⟩;have HB3:=A0_.mk (HB2.out.trans (hb.mono HB2.out.size));have HF3:=A0_.mk ((hb.block _ (blk_lt HF2.out)).trans HF2.out);clear hb)
       have d1 : decide ((k : Int) + 1 < (k : Int) + (D : Int)) = true:=decide_eq_true (by omega)
       have d2 : decide (k + 1 < k + D) = true:=decide_eq_true (by omega)
       have c0 : w3.cell? ⟨w.heap.size,0,none⟩ = some (.int .i64 0):=bC_ HF3.out 0
       have c1 : w3.cell? ⟨w.heap.size,1,none⟩ = some (.int .i64 0):=bC_ HF3.out 1
       have z0:=bF_ HF3.out 0
       have z1:=bF_ HF3.out 1
       go_wp2
       exact number_ret (n:=0) (e:=0) (a:=(k : Int)) (c:=20) rfl rfl rfl (blk_put (cs:=#[.int .i64 (k : Int),.int .i64 0]) (blk_put (cs:=#[.int .i64 0,.int .i64 0]) HF3.out 0 _ rfl) 1 _ rfl) (eS_ (eS_ HB3.out (Nat.le_refl _)) (Nat.le_refl _))
      ·have hn:=HVV.out.symm.trans HNV.out
       rw [if_neg (fun h => h1 h.2)] at hn
       subst hn
       clear HNV HVV
       go_upto_region 8 with (go_at_call 107;refine HP.out.mono ?_;rintro e w3 ⟨rfl,hb⟩;have HB3:=A0_.mk (HB2.out.trans (hb.mono HB2.out.size));have HF3:=A0_.mk ((hb.block _ (blk_lt HF2.out)).trans HF2.out);clear hb)
       have d1 : decide ((k : Int) + 1 < (k : Int) + (D : Int)) = false:=decide_eq_false (by omega)
       have d2 : decide (k + 1 < k + D) = false:=decide_eq_false (by omega)
       have c0 : w3.cell? ⟨w.heap.size,0,none⟩ = some (.int .i64 0):=bC_ HF3.out 0
       have c1 : w3.cell? ⟨w.heap.size,1,none⟩ = some (.int .i64 0):=bC_ HF3.out 1
       have z0:=bF_ HF3.out 0
       have z1:=bF_ HF3.out 1
       go_wp2
       exact number_ret (n:=(u : Int)) (e:=((k + D : Nat) : Int)) (a:=0) (c:=0) rfl rfl rfl (blk_put (cs:=#[.int .i64 0,.int .i64 0]) (blk_put (cs:=#[.int .i64 0,.int .i64 0]) HF3.out 0 _ rfl) 1 _ rfl) (eS_ (eS_ HB3.out (Nat.le_refl _)) (Nat.le_refl _))
     ·have b48 : ((((s[k]'hkl).toNat : Nat) : Int) == 48) = false:=beq_eq_false_iff_ne.2 (by omega)
      have hn:=HVV.out.symm.trans HNV.out
      rw [if_neg (fun h => h48 (by omega))] at hn
      subst hn
      clear HNV HVV
      go_upto_region 8 with (go_at_call 107;refine HP.out.mono ?_;rintro e w3 ⟨rfl,hb⟩;have HB3:=A0_.mk (HB2.out.trans (hb.mono HB2.out.size));have HF3:=A0_.mk ((hb.block _ (blk_lt HF2.out)).trans HF2.out);clear hb)
      have c0 : w3.cell? ⟨w.heap.size,0,none⟩ = some (.int .i64 0):=bC_ HF3.out 0
      have c1 : w3.cell? ⟨w.heap.size,1,none⟩ = some (.int .i64 0):=bC_ HF3.out 1
      have z0:=bF_ HF3.out 0
      have z1:=bF_ HF3.out 1
      go_wp2
      exact number_ret (n:=(u : Int)) (e:=((k + D : Nat) : Int)) (a:=0) (c:=0) rfl rfl rfl (blk_put (cs:=#[.int .i64 0,.int .i64 0]) (blk_put (cs:=#[.int .i64 0,.int .i64 0]) HF3.out 0 _ rfl) 1 _ rfl) (eS_ (eS_ HB3.out (Nat.le_refl _)) (Nat.le_refl _))
    |_ =>
     have HP:=A0_.mk (HPU.out.mono (fun e w' h => (⟨by have h1:=h.1;unfold PuEnd at h1;rw [hp] at h1;exact h1,h.2⟩ : (∃ (x : Int) (p : Value),e = .returned (.tuple #[.int .u64 x,.iface 174 p])) ∧ Below wr.heap.size wr w')))
     have hn:=HVV.out.symm.trans (numV_bad (s:=s) (k:=k) (fun u => by rw [HD.out,hp];intro h;cases h))
     subst hn
     clear hp HPU HVV
     go_upto_region 8 with (go_at_call 107;refine HP.out.mono ?_;rintro e w3 ⟨⟨x,p,rfl⟩,hb⟩;have HB3:=A0_.mk (HB2.out.trans (hb.mono HB2.out.size));have HF3:=A0_.mk ((hb.block _ (blk_lt HF2.out)).trans HF2.out);clear hb)
     have c0 : w3.cell? ⟨w.heap.size,0,none⟩ = some (.int .i64 0):=bC_ HF3.out 0
     have c1 : w3.cell? ⟨w.heap.size,1,none⟩ = some (.int .i64 0):=bC_ HF3.out 1
     have z0:=bF_ HF3.out 0
     have z1:=bF_ HF3.out 1
     go_wp2
     exact number_ret (n:=0) (e:=0) (a:=(k : Int)) (c:=20) rfl rfl rfl (blk_put (cs:=#[.int .i64 (k : Int),.int .i64 0]) (blk_put (cs:=#[.int .i64 0,.int .i64 0]) HF3.out 0 _ rfl) 1 _ rfl) (eS_ (eS_ HB3.out (Nat.le_refl _)) (Nat.le_refl _))
  ·have ckb : decide ((i : Int) < (s.size : Int)) = false:=decide_eq_false (by omega)
   have hz : digN (s.data.toList.drop i) = 0:=by rw [List.drop_eq_nil_of_le (by rw [data_length];omega)];rfl
   rw [hz] at HDI
   clear hz
   have hi : i = k + D:=by have:=HDI.out;have:=HKI.out;omega
   subst hi
   clear HI HKI HDI
   have ck1 : k ≤ k + D:=by omega
   have ck2 : k + D ≤ s.size:=by have:=HDL.out;have:=HK.out;omega
   cases hp : Lib.parseUintB 31 (s.extract k (k + D)).data.toList with
   |ok u =>
    have HP:=A0_.mk (HPU.out.mono (fun e w' h => (⟨by have h1:=h.1;unfold PuEnd at h1;rw [hp] at h1;exact h1,h.2⟩ : e = .returned (.tuple #[.int .u64 (u : Int),.nilIface]) ∧ Below wr.heap.size wr w')))
    have hNV:=numV_ok (s:=s) (k:=k) (u:=u) (by rw [HD.out];exact hp)
    rw [HD.out] at hNV
    have HU:=A0_.mk (Lib.parseUintB_le hp)
    have hD0 : D ≠ 0:=by
     intro h0
     rw [h0,Nat.add_zero] at hp
     have e0 : (s.extract k k).data.toList = []:=by rw [Stim.extract_list,Nat.sub_self,List.take_zero]
     rw [e0] at hp
     exact absurd hp (by simp [Lib.parseUintB])
    have hkl : k < s.size:=by have:=HDL.out;omega
    have hbt : bt s (k : Int) = (((s[k]'hkl).toNat : Nat) : Int):=by
     unfold bt
     rw [dif_pos (by simpa using hkl)]
     simp
    rw [hbt] at hNV
    have HNV:=A0_.mk hNV
    have ci1 : (k : Int) < (s.size : Int):=by omega
    have HD0:=A0_.mk hD0
    have hwk : IntKind.i64.wrap ((k : Int) + 1) = ((k + 1 : Nat) : Int):=by have:=HS.out;rw [IntKind.wrap_i64];omega
    have hwu : IntKind.i64.wrap (u : Int) = (u : Int):=by have:=HU.out;rw [IntKind.wrap_i64];omega
    clear hp hNV hbt hD0 HPU
    by_cases h48 : (s[k]'hkl).toNat = 48
    ·have b48 : ((((s[k]'hkl).toNat : Nat) : Int) == 48) = true:=by rw [h48];rfl
     by_cases h1 : 1 < D
     ·have hn:=HVV.out.symm.trans HNV.out
      rw [if_pos ⟨by omega,h1⟩] at hn
      subst hn
      clear HNV HVV
      go_upto_region 8 with (go_at_call 107;refine HP.out.mono ?_;rintro e w3 ⟨rfl,hb⟩;have HB3:=A0_.mk (HB2.out.trans (hb.mono HB2.out.size));have HF3:=A0_.mk ((hb.block _ (blk_lt HF2.out)).trans HF2.out);clear hb)
      have d1 : decide ((k : Int) + 1 < (k : Int) + (D : Int)) = true:=decide_eq_true (by omega)
      have d2 : decide (k + 1 < k + D) = true:=decide_eq_true (by omega)
      have c0 : w3.cell? ⟨w.heap.size,0,none⟩ = some (.int .i64 0):=bC_ HF3.out 0
      have c1 : w3.cell? ⟨w.heap.size,1,none⟩ = some (.int .i64 0):=bC_ HF3.out 1
      have z0:=bF_ HF3.out 0
      have z1:=bF_ HF3.out 1
      go_wp2
      exact number_ret (n:=0) (e:=0) (a:=(k : Int)) (c:=20) rfl rfl rfl (blk_put (cs:=#[.int .i64 (k : Int),.int .i64 0]) (blk_put (cs:=#[.int .i64 0,.int .i64 0]) HF3.out 0 _ rfl) 1 _ rfl) (eS_ (eS_ HB3.out (Nat.le_refl _)) (Nat.le_refl _))
     ·have hn:=HVV.out.symm.trans HNV.out
      rw [if_neg (fun h => h1 h.2)] at hn
      subst hn
      clear HNV HVV
      go_upto_region 8 with (go_at_call 107;refine HP.out.mono ?_;rintro e w3 ⟨rfl,hb⟩;have HB3:=A0_.mk (HB2.out.trans (hb.mono HB2.out.size));have HF3:=A0_.mk ((hb.block _ (blk_lt HF2.out)).trans HF2.out);clear hb)
      have d1 : decide ((k : Int) + 1 < (k : Int) + (D : Int)) = false:=decide_eq_false (by omega)
      have d2 : decide (k + 1 < k + D) = false:=decide_eq_false (by omega)
      have c0 : w3.cell? ⟨w.heap.size,0,none⟩ = some (.int .i64 0):=bC_ HF3.out 0
      have c1 : w3.cell? ⟨w.heap.size,1,none⟩ = some (.int .i64 0):=bC_ HF3.out 1
      have z0:=bF_ HF3.out 0
      have z1:=bF_ HF3.out 1
      go_wp2
      exact number_ret (n:=(u : Int)) (e:=((k + D : Nat) : Int)) (a:=0) (c:=0) rfl rfl rfl (blk_put (cs:=#[.int .i64 0,.int .i64 0]) (blk_put (cs:=#[.int .i64 0,.int .i64 0]) HF3.out 0 _ rfl) 1 _ rfl) (eS_ (eS_ HB3.out (Nat.le_refl _)) (Nat.le_refl _))
    ·have b48 : ((((s[k]'hkl).toNat : Nat) : Int) == 48) = false:=beq_eq_false_iff_ne.2 (by omega)
     have hn:=HVV.out.symm.trans HNV.out
     rw [if_neg (fun h => h48 (by omega))] at hn
     subst hn
     clear HNV HVV
     go_upto_region 8 with (go_at_call 107;refine HP.out.mono ?_;rintro e w3 ⟨rfl,hb⟩;have HB3:=A0_.mk (HB2.out.trans (hb.mono HB2.out.size));have HF3:=A0_.mk ((hb.block _ (blk_lt HF2.out)).trans HF2.out);clear hb)
     have c0 : w3.cell? ⟨w.heap.size,0,none⟩ = some (.int .i64 0):=bC_ HF3.out 0
     have c1 : w3.cell? ⟨w.heap.size,1,none⟩ = some (.int .i64 0):=bC_ HF3.out 1
     have z0:=bF_ HF3.out 0
     have z1:=bF_ HF3.out 1
     go_wp2
     exact number_ret (n:=(u : Int)) (e:=((k + D : Nat) : Int)) (a:=0) (c:=0) rfl rfl rfl (blk_put (cs:=#[.int .i64 0,.int .i64 0]) (blk_put (cs:=#[.int .i64 0,.int .i64 0]) HF3.out 0 _ rfl) 1 _ rfl) (eS_ (eS_ HB3.out (Nat.le_refl _)) (Nat.le_refl _))
   |_ =>
    have HP:=A0_.mk (HPU.out.mono (fun e w' h => (⟨by have h1:=h.1;unfold PuEnd at h1;rw [hp] at h1;exact h1,h.2⟩ : (∃ (x : Int) (p : Value),e = .returned (.tuple #[.int .u64 x,.iface 174 p])) ∧ Below wr.heap.size wr w')))
    have hn:=HVV.out.symm.trans (numV_bad (s:=s) (k:=k) (fun u => by rw [HD.out,hp];intro h;cases h))
    subst hn
    clear hp HPU HVV
    go_upto_region 8 with (go_at_call 107;refine HP.out.mono ?_;rintro e w3 ⟨⟨x,p,rfl⟩,hb⟩;have HB3:=A0_.mk (HB2.out.trans (hb.mono HB2.out.size));have HF3:=A0_.mk ((hb.block _ (blk_lt HF2.out)).trans HF2.out);clear hb)
    have c0 : w3.cell? ⟨w.heap.size,0,none⟩ = some (.int .i64 0):=bC_ HF3.out 0
    have c1 : w3.cell? ⟨w.heap.size,1,none⟩ = some (.int .i64 0):=bC_ HF3.out 1
    have z0:=bF_ HF3.out 0
    have z1:=bF_ HF3.out 1
    go_wp2
    exact number_ret (n:=0) (e:=0) (a:=(k : Int)) (c:=20) rfl rfl rfl (blk_put (cs:=#[.int .i64 (k : Int),.int .i64 0]) (blk_put (cs:=#[.int .i64 0,.int .i64 0]) HF3.out 0 _ rfl) 1 _ rfl) (eS_ (eS_ HB3.out (Nat.le_refl _)) (Nat.le_refl _))
end Go.Proofs.YtdmngdohlobogaaGreatDoor.Asc
end
section
namespace Go.Proofs.YtdmngdohlobogaaGreatDoor.Stim
open Go Go.RowKit Go.Proofs.YtdmngdohlobogaaGreatDoorW.PrintWords Go.Proofs.YtdmngdohlobogaaGreatDoorW.PrintLast Go.Proofs.YtdmngdohlobogaaGreatDoorW.PrintMore
section
variable {P : Program} {ops : Array Oper} {rest : List Oper} {o : Oper} {a : Act} {Q : Exit → Act → World → Prop}
theorem mkcap {α : Type} (d : Kd α) {w0 W : World} (base e : Nat) (hgd : o.guard = none) (t : TypeId) (x y : Operand) (ho : o.op = .makeSlice t x y) (n : Nat) (hx : a.eval x = .int .i64 0) (hy : a.eval y = .int .i64 (n : Int))
  (ht : P.underlying t = some (.slice e)) (z : Value) (bytes : Nat) (hinfo : (P.info? e).map (fun i => (i.zero,i.size,i.bytes)) = some (some z,d.sz,bytes)) (hl : bytes * n ≤ 281474976710656) (h63 : n ≤ maxLen) {ok : Nat → Prop} (hfresh : ok W.heap.size) (HB : Below base w0 W) (hbase : base ≤ W.heap.size)
  (h : ∀ v1 w1,d.R e w1 base ok v1 [] → Below base w0 w1 → Below W.heap.size W w1 → wpList P ops Q rest (a.put o.dst v1) w1) : wpList P ops Q (o :: rest) a W:=by
 obtain ⟨i0,hi,hzz⟩:=Option.map_eq_some_iff.1 hinfo
 simp only [Prod.mk.injEq] at hzz
 obtain ⟨hz0,hz1,hz2⟩:=hzz
 obtain ⟨w',hr,hown,hg⟩:=run_make_own (P:=P) W base t e i0 z d.sz ht hi hz0 hz1 .i64 .i64 n (by rw [hz2];exact hl) h63 hbase
 refine Kd.event_run hgd (v:=.slice (some ⟨W.heap.size,0,none⟩) 0 n) (w1:=w') ?_ (h _ _ ?_ ?_ ?_)
 ·simp [execOp,ho,hx,hy,hr,Result.andThen]
 ·refine ⟨fun k hk => ?_,[],hown,Reps.none _ _⟩
  simp [Value.ownBlock] at hk
  subst hk
  exact hfresh
 ·exact HB.grown hg hbase (fun k e => by cases e)
 ·exact (Below.refl _ _).grown hg (Nat.le_refl _) (fun k e => by cases e)
end
end Go.Proofs.YtdmngdohlobogaaGreatDoor.Stim
end
