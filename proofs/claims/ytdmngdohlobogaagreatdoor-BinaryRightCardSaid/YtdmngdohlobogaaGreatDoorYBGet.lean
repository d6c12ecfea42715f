import Derived.Test.YtdmngdohlobogaaGreatDoorYM28
import Derived.Laws.Bits64b
import Derived.Laws.BitsAllLaws
namespace Go.Proofs.YtdmngdohlobogaaGreatDoor.Asc
open Go Go.RowKit Go.Proofs.YtdmngdohlobogaaGreatDoorW.PrintWords Go.Proofs.YtdmngdohlobogaaGreatDoorW.PrintLast Go.Proofs.YtdmngdohlobogaaGreatDoorW.PrintMore
set_option linter.unusedVariables false
set_option linter.unusedSimpArgs false
attribute [local go_sem high] eqA40
def getG (s : ByteArray) (k : Nat) : Nat → Nat → Nat → Option (Nat × Nat)
 |0,_,_ => none
 |f + 1,j,n => if h : k + j < s.size then
   let m:=n ||| (((s[k + j]'h).toNat % 128) * 2 ^ (7 * j))
   if 127 < (s[k + j]'h).toNat then getG s k f (j + 1) m
   else if ((s[k + j]'h).toNat = 0 ∧ 0 < j) ∨ 2147483647 < m then none
   else some (m,k + j + 1)
  else none
def getW (s : ByteArray) (k : Nat) : Option (Nat × Nat):=getG s k 5 0 0
theorem getG_le {s : ByteArray} {k : Nat} : ∀ {f j n m e : Nat},getG s k f j n = some (m,e) → k < e ∧ e ≤ s.size ∧ m ≤ 2147483647
 |0,j,n,m,e,h => by cases h
 |f + 1,j,n,m,e,h => by
  rw [getG] at h
  dsimp only at h
  split at h
  ·split at h
   ·exact getG_le h
   ·split at h
    ·cases h
    ·rename_i h1 h2 h3
     injection h with h
     injection h with h4 h5
     subst h4;subst h5
     exact ⟨by omega,by omega,by omega⟩
  ·cases h
theorem getW_le {s : ByteArray} {k m e : Nat} (h : getW s k = some (m,e)) : k < e ∧ e ≤ s.size ∧ m ≤ 2147483647:=getG_le h
def GetV (k : Nat) (r : Option (Nat × Nat)) : Value:=match r with
 |none => .tuple #[.int .i64 0,.int .i64 0,.agg #[.int .i64 (k : Int),.int .i64 20]]
 |some (n,e) => .tuple #[.int .i64 (n : Int),.int .i64 (e : Int),.agg #[.int .i64 0,.int .i64 0]]
theorem get_ret {w W : World} {tm : Array Value} {n e a c : Int} (h4 : tm.getD 4 undef = .int .i64 n) (h5 : tm.getD 5 undef = .int .i64 e) (h6 : tm.getD 6 undef = .pointer (some ⟨w.heap.size,0,none⟩))
  (hF : W.heap[w.heap.size]? = some (.cells #[.int .i64 a,.int .i64 c] 32 (0,0))) (hB : Below w.heap.size w W) :
  bodyPost Tryz.prog Tryz.f54 (fun x w' => x = .returned (.tuple #[.int .i64 n,.int .i64 e,.agg #[.int .i64 a,.int .i64 c]]) ∧ Below w.heap.size w w') .ret { tmps:=tm,defers:=[] } W:=by
 have h:=results_list (P:=Tryz.prog) (fn:=Tryz.f54) (tmps:=tm) (w:=W) (rs:=[.tmp 4,.tmp 5,.cell 6 32]) rfl (by simp) (.tmp (.tmp (.cell w.heap.size 32 _ (0,0) _ h6 hF Tryz.underlying32 rfl info32 .nil)))
 rw [h4,h5] at h
 exact bodyPost_ret h rfl ⟨rfl,hB⟩
theorem and127 {b : Nat} (hb : b < 256) : bits .and .u8 (b : Int) 127 = ((b % 128 : Nat) : Int):=by
 have h:=u8_and_nat b 127 hb (by omega)
 rw [show b &&& 127 = b % 128 from Nat.and_two_pow_sub_one_eq_mod b 7] at h
 exact h
theorem or_lt {n m j : Nat} (hn : n < 2 ^ j) (hm : m < 2 ^ j) : n ||| m < 2 ^ j:=Nat.or_lt_two_pow hn hm
set_option maxHeartbeats 4000000 in
set_option maxRecDepth 100000 in
theorem getW_calls {w : World} {s : ByteArray} {k : Nat} (hs : s.size ≤ 262144) (hk : k ≤ s.size) :
  Calls Tryz.prog 54 #[.string s,.int .i64 (k : Int)] w fun e w' => e = .returned (GetV k (getW s k)) ∧ Below w.heap.size w w':=by
 have HS:=A0_.mk hs
 have HK:=A0_.mk hk
 clear hs hk
 obtain ⟨V,hV⟩ : ∃ V,GetV k (getW s k) = V:=⟨_,rfl⟩
 rw [hV]
 have HVV:=A0_.mk hV
 clear hV
 go_enter Tryz.func54,Tryz.ntmps54
 go_upto_region 4 with (go_at_call 81;refine (given_calls HS.out HK.out).mono ?_;rintro e w1 ⟨rfl,hb⟩;have HB1:=A0_.mk hb;clear hb)
 have hf0:=(HB1.out.block _ (blk_lt (blk_new w (.cells #[.int .i64 0,.int .i64 0] 32)))).trans (blk_new w (.cells #[.int .i64 0,.int .i64 0] 32))
 have hf:=bA_ hf0 (.cells #[.int .i64 0,.int .i64 0] 32)
 have hb0 : Below w.heap.size w (w.alloc (.cells #[.int .i64 0,.int .i64 0] 32)):=eA_ (Below.refl _ _) _
 have HB2:=A0_.mk (eA_ (hb0.trans (HB1.out.mono hb0.size)) (.cells #[.int .i64 0,.int .i64 0] 32))
 clear hf0 hb0 HB1
 generalize w1.alloc (.cells #[.int .i64 0,.int .i64 0] 32) = w2 at hf HB2 ⊢
 generalize w1.heap.size = g7
 have HF2:=A0_.mk hf
 clear hf
 go_wp2
 (try simp only [Act.put,sA_,sB_,sC_])
 go_loopg [8,9] 6 (fun kq v8 v9 w' => ∃ (i j n : Nat),v8 = .int .u64 (n : Int) ∧ v9 = .int .i64 (i : Int) ∧ A0_ (i = k + j) ∧ A0_ (j + kq = 6) ∧ A0_ (j ≤ 5) ∧ A0_ (i ≤ s.size) ∧ A0_ (n < 2 ^ (7 * j)) ∧ A0_ (getG s k (5 - j) j n = getW s k) ∧ w' = w2)
 case atStart => exact ⟨k,0,0,rfl,rfl,⟨rfl⟩,⟨rfl⟩,⟨by omega⟩,HK,⟨by decide⟩,⟨rfl⟩,rfl⟩
 case round =>
  obtain ⟨i,j,n,rfl,rfl,HIJ,HJQ,HJ5,HIS,HNJ,HGET,rfl⟩:=hrel
  have hwj : IntKind.i64.wrap ((i : Int) - (k : Int)) = (j : Int):=by have:=HIJ.out;have:=HJ5.out;rw [IntKind.wrap_i64];omega
  have hwi : IntKind.i64.wrap ((i : Int) + 1) = ((i + 1 : Nat) : Int):=by have:=HS.out;have:=HIS.out;rw [IntKind.wrap_i64];omega
  by_cases ck : i < s.size
  ·have ckb : decide ((i : Int) < (s.size : Int)) = true:=decide_eq_true (by omega)
   have ckb' : decide (i < s.size) = true:=decide_eq_true ck
   by_cases cj : j < 5
   ·have cjb : decide ((j : Int) < 5) = true:=decide_eq_true (by omega)
    have cjb' : decide (j < 5) = true:=decide_eq_true cj
    have hb8 : (s[i]'ck).toNat < 256:=UInt8.toNat_lt _
    have hand:=and127 hb8
    have hmul : IntKind.i64.wrap (7 * (j : Int)) = ((7 * j : Nat) : Int):=by rw [IntKind.wrap_i64];omega
    have hget:=HGET.out
    rw [show 5 - j = (5 - (j + 1)) + 1 by omega] at hget
    rw [getG] at hget
    dsimp only at hget
    rw [dif_pos (by have:=HIJ.out;omega)] at hget
    have hij : k + j = i:=HIJ.out.symm
    simp only [hij] at hget
    have hlt : (s[i]'ck).toNat % 128 * 2 ^ (7 * j) < 2 ^ (7 * (j + 1)):=by
     rw [show 7 * (j + 1) = 7 + 7 * j by omega,Nat.pow_add]
     exact Nat.mul_lt_mul_of_pos_right (by have : (2 : Nat) ^ 7 = 128:=rfl;omega) (Nat.two_pow_pos _)
    have hle : 2 ^ (7 * (j + 1)) ≤ 2 ^ 35:=Nat.pow_le_pow_right (by decide) (by omega)
    have h35 : (2 : Nat) ^ 35 = 34359738368:=rfl
    have hn2 : n < 2 ^ (7 * (j + 1)):=Nat.lt_of_lt_of_le HNJ.out (Nat.pow_le_pow_right (by decide) (by omega))
    have hsv : IntKind.u64.wrap ((((s[i]'ck).toNat : Nat) : Int) % 128 * 2 ^ (7 * j)) = (((s[i]'ck).toNat % 128 * 2 ^ (7 * j) : Nat) : Int):=by
     have : ((((s[i]'ck).toNat : Nat) : Int) % 128) * 2 ^ (7 * j) = (((s[i]'ck).toNat % 128 * 2 ^ (7 * j) : Nat) : Int):=by push_cast;rfl
     rw [this,IntKind.wrap_u64]
     omega
    have hor:=bits_or_u64_nat n ((s[i]'ck).toNat % 128 * 2 ^ (7 * j)) (by omega) (by omega)
    have hmlt:=or_lt hn2 hlt
    generalize (s[i]'ck).toNat % 128 * 2 ^ (7 * j) = t at hsv hor hmlt hget
    generalize hm : n ||| t = m at hor hmlt hget
    have HMLT:=A0_.mk hmlt
    have HM35:=A0_.mk (show m < 34359738368 by omega)
    have hval : bits .or .u64 (n : Int) (IntKind.u64.wrap ((((s[i]'ck).toNat : Nat) : Int) % 128 * 2 ^ (7 * j))) = (m : Int):=by rw [hsv];exact hor
    clear hlt hle h35 hn2 hmlt hm hmul hsv hor
    go_upto_region 9 with (fail)
    (try simp only [hval])
    clear hval hand
    by_cases h127 : 127 < (s[i]'ck).toNat
    ·have b127 : decide ((127 : Int) < (((s[i]'ck).toNat : Nat) : Int)) = true:=decide_eq_true (by omega)
     have b127' : decide (127 < (s[i]'ck).toNat) = true:=decide_eq_true h127
     rw [if_pos h127] at hget
     have HGN:=A0_.mk hget
     obtain ⟨g1,rfl⟩ : ∃ g1,gk = g1 + 1:=by
      cases gk with
      |zero => have:=HJQ.out;omega
      |succ g1 => exact ⟨g1,rfl⟩
     clear hget
     go_wp2
     go_roundg g1
     case measure => omega
     case rel => exact ⟨i + 1,j + 1,m,rfl,by push_cast;rfl,⟨by have:=HIJ.out;omega⟩,⟨by have:=HJQ.out;omega⟩,⟨by omega⟩,⟨by omega⟩,HMLT,HGN,rfl⟩
    ·have b127 : decide ((127 : Int) < (((s[i]'ck).toNat : Nat) : Int)) = false:=decide_eq_false (by omega)
     have b127' : decide (127 < (s[i]'ck).toNat) = false:=decide_eq_false h127
     rw [if_neg h127] at hget
     by_cases h0 : (s[i]'ck).toNat = 0
     ·have b0 : ((((s[i]'ck).toNat : Nat) : Int) == 0) = true:=by rw [h0];rfl
      by_cases hj : 0 < j
      ·have bj : decide ((k : Int) < (i : Int)) = true:=decide_eq_true (by have:=HIJ.out;omega)
       have bj' : decide (k < i) = true:=decide_eq_true (by have:=HIJ.out;omega)
       rw [if_pos (Or.inl ⟨h0,hj⟩)] at hget
       have HGN:=A0_.mk hget.symm
       clear hget
       have hn : GetV k (getW s k) = .tuple #[.int .i64 0,.int .i64 0,.agg #[.int .i64 (k : Int),.int .i64 20]]:=by rw [HGN.out];rfl
       have hn:=HVV.out.symm.trans hn
       subst hn
       clear HGN HVV
       have c0 : wr.cell? ⟨w.heap.size,0,none⟩ = some (.int .i64 0):=bC_ HF2.out 0
       have c1 : wr.cell? ⟨w.heap.size,1,none⟩ = some (.int .i64 0):=bC_ HF2.out 1
       have z0:=bF_ HF2.out 0
       have z1:=bF_ HF2.out 1
       go_wp2
       exact get_ret (n:=0) (e:=0) (a:=(k : Int)) (c:=20) rfl rfl rfl (blk_put (cs:=#[.int .i64 (k : Int),.int .i64 0]) (blk_put (cs:=#[.int .i64 0,.int .i64 0]) HF2.out 0 _ rfl) 1 _ rfl) (eS_ (eS_ HB2.out (Nat.le_refl _)) (Nat.le_refl _))
      ·have bj : decide ((k : Int) < (i : Int)) = false:=decide_eq_false (by have:=HIJ.out;omega)
       have bj' : decide (k < i) = false:=decide_eq_false (by have:=HIJ.out;omega)
       by_cases hm : 2147483647 < m
       ·have bm : decide ((2147483647 : Int) < (m : Int)) = true:=decide_eq_true (by omega)
        have bm' : decide (2147483647 < m) = true:=decide_eq_true hm
        rw [if_pos (Or.inr hm)] at hget
        have HGN:=A0_.mk hget.symm
        clear hget
        have hn : GetV k (getW s k) = .tuple #[.int .i64 0,.int .i64 0,.agg #[.int .i64 (k : Int),.int .i64 20]]:=by rw [HGN.out];rfl
        have hn:=HVV.out.symm.trans hn
        subst hn
        clear HGN HVV
        have c0 : wr.cell? ⟨w.heap.size,0,none⟩ = some (.int .i64 0):=bC_ HF2.out 0
        have c1 : wr.cell? ⟨w.heap.size,1,none⟩ = some (.int .i64 0):=bC_ HF2.out 1
        have z0:=bF_ HF2.out 0
        have z1:=bF_ HF2.out 1
        go_wp2
        exact get_ret (n:=0) (e:=0) (a:=(k : Int)) (c:=20) rfl rfl rfl (blk_put (cs:=#[.int .i64 (k : Int),.int .i64 0]) (blk_put (cs:=#[.int .i64 0,.int .i64 0]) HF2.out 0 _ rfl) 1 _ rfl) (eS_ (eS_ HB2.out (Nat.le_refl _)) (Nat.le_refl _))
       ·have bm : decide ((2147483647 : Int) < (m : Int)) = false:=decide_eq_false (by omega)
        have bm' : decide (2147483647 < m) = false:=decide_eq_false hm
        rw [if_neg (fun h => h.elim (fun h => hj h.2) hm)] at hget
        have HGN:=A0_.mk hget.symm
        have hwm : IntKind.i64.wrap (m : Int) = (m : Int):=by rw [IntKind.wrap_i64];omega
        clear hget
        have hn : GetV k (getW s k) = .tuple #[.int .i64 (m : Int),.int .i64 ((i + 1 : Nat) : Int),.agg #[.int .i64 0,.int .i64 0]]:=by rw [HGN.out];rfl
        have hn:=HVV.out.symm.trans hn
        subst hn
        clear HGN HVV
        have c0 : wr.cell? ⟨w.heap.size,0,none⟩ = some (.int .i64 0):=bC_ HF2.out 0
        have c1 : wr.cell? ⟨w.heap.size,1,none⟩ = some (.int .i64 0):=bC_ HF2.out 1
        have z0:=bF_ HF2.out 0
        have z1:=bF_ HF2.out 1
        go_wp2
        exact get_ret (n:=(m : Int)) (e:=((i + 1 : Nat) : Int)) (a:=0) (c:=0) rfl rfl rfl (blk_put (cs:=#[.int .i64 0,.int .i64 0]) (blk_put (cs:=#[.int .i64 0,.int .i64 0]) HF2.out 0 _ rfl) 1 _ rfl) (eS_ (eS_ HB2.out (Nat.le_refl _)) (Nat.le_refl _))
     ·have b0 : ((((s[i]'ck).toNat : Nat) : Int) == 0) = false:=beq_eq_false_iff_ne.2 (by omega)
      by_cases hm : 2147483647 < m
      ·have bm : decide ((2147483647 : Int) < (m : Int)) = true:=decide_eq_true (by omega)
       have bm' : decide (2147483647 < m) = true:=decide_eq_true hm
       rw [if_pos (Or.inr hm)] at hget
       have HGN:=A0_.mk hget.symm
       clear hget
       have hn : GetV k (getW s k) = .tuple #[.int .i64 0,.int .i64 0,.agg #[.int .i64 (k : Int),.int .i64 20]]:=by rw [HGN.out];rfl
       have hn:=HVV.out.symm.trans hn
       subst hn
       clear HGN HVV
       have c0 : wr.cell? ⟨w.heap.size,0,none⟩ = some (.int .i64 0):=bC_ HF2.out 0
       have c1 : wr.cell? ⟨w.heap.size,1,none⟩ = some (.int .i64 0):=bC_ HF2.out 1
       have z0:=bF_ HF2.out 0
       have z1:=bF_ HF2.out 1
       go_wp2
       exact get_ret (n:=0) (e:=0) (a:=(k : Int)) (c:=20) rfl rfl rfl (blk_put (cs:=#[.int .i64 (k : Int),.int .i64 0]) (blk_put (cs:=#[.int .i64 0,.int .i64 0]) HF2.out 0 _ rfl) 1 _ rfl) (eS_ (eS_ HB2.out (Nat.le_refl _)) (Nat.le_refl _))
      ·have bm : decide ((2147483647 : Int) < (m : Int)) = false:=decide_eq_false (by omega)
       have bm' : decide (2147483647 < m) = false:=decide_eq_false hm
       rw [if_neg (fun h => h.elim (fun h => h0 h.1) hm)] at hget
       have HGN:=A0_.mk hget.symm
       have hwm : IntKind.i64.wrap (m : Int) = (m : Int):=by rw [IntKind.wrap_i64];omega
       clear hget
       have hn : GetV k (getW s k) = .tuple #[.int .i64 (m : Int),.int .i64 ((i + 1 : Nat) : Int),.agg #[.int .i64 0,.int .i64 0]]:=by rw [HGN.out];rfl
       have hn:=HVV.out.symm.trans hn
       subst hn
       clear HGN HVV
       have c0 : wr.cell? ⟨w.heap.size,0,none⟩ = some (.int .i64 0):=bC_ HF2.out 0
       have c1 : wr.cell? ⟨w.heap.size,1,none⟩ = some (.int .i64 0):=bC_ HF2.out 1
       have z0:=bF_ HF2.out 0
       have z1:=bF_ HF2.out 1
       go_wp2
       exact get_ret (n:=(m : Int)) (e:=((i + 1 : Nat) : Int)) (a:=0) (c:=0) rfl rfl rfl (blk_put (cs:=#[.int .i64 0,.int .i64 0]) (blk_put (cs:=#[.int .i64 0,.int .i64 0]) HF2.out 0 _ rfl) 1 _ rfl) (eS_ (eS_ HB2.out (Nat.le_refl _)) (Nat.le_refl _))
   ·have cjb : decide ((j : Int) < 5) = false:=decide_eq_false (by omega)
    have cjb' : decide (j < 5) = false:=decide_eq_false cj
    have HGN:=A0_.mk (show getW s k = none by
     have h:=HGET.out
     have h5:=HJ5.out
     rw [show 5 - j = 0 by omega] at h
     exact h.symm)
    have hn : GetV k (getW s k) = .tuple #[.int .i64 0,.int .i64 0,.agg #[.int .i64 (k : Int),.int .i64 20]]:=by rw [HGN.out];rfl
    have hn:=HVV.out.symm.trans hn
    subst hn
    clear HGN HVV
    have c0 : wr.cell? ⟨w.heap.size,0,none⟩ = some (.int .i64 0):=bC_ HF2.out 0
    have c1 : wr.cell? ⟨w.heap.size,1,none⟩ = some (.int .i64 0):=bC_ HF2.out 1
    have z0:=bF_ HF2.out 0
    have z1:=bF_ HF2.out 1
    go_wp2
    exact get_ret (n:=0) (e:=0) (a:=(k : Int)) (c:=20) rfl rfl rfl (blk_put (cs:=#[.int .i64 (k : Int),.int .i64 0]) (blk_put (cs:=#[.int .i64 0,.int .i64 0]) HF2.out 0 _ rfl) 1 _ rfl) (eS_ (eS_ HB2.out (Nat.le_refl _)) (Nat.le_refl _))
  ·have ckb : decide ((i : Int) < (s.size : Int)) = false:=decide_eq_false (by omega)
   have ckb' : decide (i < s.size) = false:=decide_eq_false ck
   have HGN:=A0_.mk (show getW s k = none by
    have h:=HGET.out
    have h5:=HIJ.out
    cases hf : 5 - j with
    |zero => rw [hf] at h;exact h.symm
    |succ f =>
     rw [hf,getG,dif_neg (by omega)] at h
     exact h.symm)
   have hn : GetV k (getW s k) = .tuple #[.int .i64 0,.int .i64 0,.agg #[.int .i64 (k : Int),.int .i64 20]]:=by rw [HGN.out];rfl
   have hn:=HVV.out.symm.trans hn
   subst hn
   clear HGN HVV
   have c0 : wr.cell? ⟨w.heap.size,0,none⟩ = some (.int .i64 0):=bC_ HF2.out 0
   have c1 : wr.cell? ⟨w.heap.size,1,none⟩ = some (.int .i64 0):=bC_ HF2.out 1
   have z0:=bF_ HF2.out 0
   have z1:=bF_ HF2.out 1
   go_wp2
   exact get_ret (n:=0) (e:=0) (a:=(k : Int)) (c:=20) rfl rfl rfl (blk_put (cs:=#[.int .i64 (k : Int),.int .i64 0]) (blk_put (cs:=#[.int .i64 0,.int .i64 0]) HF2.out 0 _ rfl) 1 _ rfl) (eS_ (eS_ HB2.out (Nat.le_refl _)) (Nat.le_refl _))
end Go.Proofs.YtdmngdohlobogaaGreatDoor.Asc

