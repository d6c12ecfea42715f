import Derived.Test.YtojepjkpnponoaaDoorKWhole1
import Derived.Test.YtojepjkpnponoaaDoorKGDigits
import Derived.Lib.ItoaNum
import Derived.Lib.ItoaLen
import Derived.IntWalk
set_option linter.unusedVariables false
set_option linter.unusedSimpArgs false
namespace Go.Proofs.YtojepjkpnponoaaDoor.Stim
open Go Go.RowKit Go.Proofs.YtojepjkpnponoaaDoor.Whole Go.Proofs.YtojepjkpnponoaaDoorW.PrintWords
theorem ten_at (d : Nat) (h : d < 10) : (⟨#[48,49,50,51,52,53,54,55,56,57]⟩ : ByteArray).extract d (d + 1) = ⟨#[UInt8.ofNat (48 + d)]⟩:=by
  have : d = 0 ∨ d = 1 ∨ d = 2 ∨ d = 3 ∨ d = 4 ∨ d = 5 ∨ d = 6 ∨ d = 7 ∨ d = 8 ∨ d = 9:=by omega
  rcases this with rfl|rfl|rfl|rfl|rfl|rfl|rfl|rfl|rfl|rfl <;> rfl
theorem wrap_small {x : Int} (h0 : -9223372036854775808 ≤ x) (h1 : x ≤ 9223372036854775807) : wrap64 x = x:=IntWalk.wrap64_in x ⟨h0,h1⟩
theorem app_last (a : List UInt8) (d : UInt8) (x : ByteArray) : (⟨(a ++ [d]).toArray⟩ : ByteArray) ++ x = (⟨a.toArray⟩ : ByteArray) ++ (⟨#[d]⟩ ++ x):=by
  apply ByteArray.ext
  simp
theorem whole_pos (k n : Nat) (x : ByteArray) (hn : 0 < n) (hk : Lib.nDigits n < k) (hs : x.size + k ≤ 1000000) (hb : n < 4294967296) : trestleref02_Whole.l0 k (n : Int) x = some ((⟨(Lib.decDigits n).toArray⟩ : ByteArray) ++ x):=by
  induction n using Nat.strongRecOn generalizing k x with
  | _ n ih =>
    cases k with
    | zero => omega
    | succ k =>
      have hd : n % 10 < 10:=Nat.mod_lt _ (by decide)
      have ht : Int.tmod (n : Int) 10 = ((n % 10 : Nat) : Int):=by rw [Int.tmod_eq_emod_of_nonneg (by omega)];omega
      have hq : Int.tdiv (n : Int) 10 = ((n / 10 : Nat) : Int):=by rw [Int.tdiv_eq_ediv_of_nonneg (by omega)];omega
      have hw1 : wrap64 (((n % 10 : Nat) : Int) + 1) = (((n % 10) + 1 : Nat) : Int):=by rw [wrap_small (by omega) (by omega)];omega
      have hw2 : wrap64 ((n / 10 : Nat) : Int) = ((n / 10 : Nat) : Int):=wrap_small (by omega) (by omega)
      have hstep : trestleref02_Whole.l0 (k + 1) (n : Int) x = trestleref02_Whole.l0 k ((n / 10 : Nat) : Int) ((⟨#[UInt8.ofNat (48 + n % 10)]⟩ : ByteArray) ++ x):=by
        rw [trestleref02_Whole.l0,if_pos (by omega),ht,if_pos (by omega),hw1,if_pos (by omega),if_pos (by omega)]
        simp only [Int.toNat_natCast]
        rw [ten_at _ hd,if_pos (by have : (⟨#[UInt8.ofNat (48 + n % 10)]⟩ : ByteArray).size = 1:=rfl;omega),hq,hw2]
      rw [hstep]
      by_cases h10 : n < 10
      · rw [Lib.nDigits_small h10] at hk
        have h0 : n / 10 = 0:=by omega
        rw [h0]
        cases k with
        | zero => omega
        | succ k =>
          rw [trestleref02_Whole.l0,if_neg (by simp),if_neg]
          · rw [Lib.decDigits,dif_pos h10,Nat.mod_eq_of_lt h10]
          · intro he
            have:=congrArg List.length he
            rw [ByteArray.toList_eq] at this
            simp at this
      · rw [Lib.nDigits_big h10] at hk
        rw [ih (n / 10) (by omega) k _ (by omega) (by omega) (by have : ((⟨#[UInt8.ofNat (48 + n % 10)]⟩ : ByteArray) ++ x).size = 1 + x.size:=by simp [ByteArray.size_append];rfl
                                                                 omega) (by omega)]
        rw [show Lib.decDigits n = Lib.decDigits (n / 10) ++ [UInt8.ofNat (48 + n % 10)] by rw [Lib.decDigits,dif_neg h10],app_last]
theorem whole_zero : trestleref02_Whole.f 100 0 = some ⟨#[48]⟩:=by
  unfold trestleref02_Whole.f
  rw [trestleref02_Whole.l0,if_neg (by decide),if_pos (by rw [ByteArray.toList_eq])]
  have e1 : Int.tmod 0 10 = ((0 : Nat) : Int):=rfl
  have e2 : wrap64 (((0 : Nat) : Int) + 1) = ((0 + 1 : Nat) : Int):=wrap_small (by decide) (by decide)
  have e3 : wrap64 (Int.tdiv 0 10) = 0:=wrap_small (by decide) (by decide)
  rw [e1,if_pos (by decide),e2,if_pos (by decide),if_pos (by decide)]
  simp only [Int.toNat_natCast]
  rw [ten_at 0 (by decide),if_pos (by decide),e3,trestleref02_Whole.l0,if_neg (by decide),if_neg]
  · rfl
  · rw [ByteArray.toList_eq]
    decide
theorem whole_itoa (n : Int) (h0 : 0 ≤ n) (h1 : n < 4294967296) : trestleref02_Whole.f 100 n = some ⟨(Lib.itoa n).toArray⟩:=by
  obtain ⟨m,rfl⟩:=Int.eq_ofNat_of_zero_le h0
  rw [show Lib.itoa (m : Int) = Lib.decDigits m by unfold Lib.itoa;rw [if_neg (by omega)];rfl]
  by_cases hm : m = 0
  · subst hm
    rw [Lib.decDigits,dif_pos (by decide)]
    exact whole_zero
  · unfold trestleref02_Whole.f
    rw [whole_pos 100 m _ (by omega) (by have:=Lib.nDigits_le20 m (by omega);omega) (by decide) (by omega)]
    congr 1
    apply ByteArray.ext
    simp
theorem bits_loop (l : List Bool) (hl : l.length < 4294967296) (m : Nat) : ∀ (i k : Nat),i + m = l.length → m < k → trestleref02_Bits0.l0 k l ((l.take i).map digitOf ++ List.replicate m 0) (i : Int) = some (strOfNums (l.map digitOf)):=by
  induction m with
  | zero =>
    intro i k hi hk
    cases k with
    | zero => omega
    | succ k =>
      rw [trestleref02_Bits0.l0,if_neg (by omega),List.replicate_zero,List.append_nil,List.take_of_length_le (by omega)]
  | succ m ih =>
    intro i k hi hk
    cases k with
    | zero => omega
    | succ k =>
      have hlt : i < l.length:=by omega
      have hlen : ((l.take i).map digitOf).length = i:=by simp;omega
      have hset : ∀ (x y : Int) (r : List Int),((l.take i).map digitOf ++ x :: r).set i y = (l.take i).map digitOf ++ y :: r:=by
        intro x y r
        rw [List.set_append_right _ _ (by omega),hlen,Nat.sub_self]
        rfl
      have hw : wrap64 ((i : Int) + 1) = ((i + 1 : Nat) : Int):=by rw [wrap_small (by omega) (by omega)];rfl
      have hrd : rdOf false l (i : Int) = l[i]:=by simp [rdOf,hlt]
      have htk : (l.take (i + 1)).map digitOf = (l.take i).map digitOf ++ [digitOf l[i]]:=by rw [List.take_succ_eq_append_getElem hlt,List.map_append];rfl
      rw [trestleref02_Bits0.l0,if_pos (by omega),if_pos (by omega),if_pos (by simp;omega)]
      simp only [Option.bind_some,Int.toNat_natCast,List.replicate_succ,hset,hrd,hw]
      have ih2:=ih (i + 1) k (by omega) (by omega)
      rw [htk,List.append_assoc,List.singleton_append] at ih2
      cases hb : l[i] with
      | true => rw [if_pos rfl];rw [hb] at ih2;exact ih2
      | false => rw [if_neg (by decide)];rw [hb] at ih2;exact ih2
theorem bits_f (l : List Bool) (hl : l.length < 4294967296) : trestleref02_Bits0.f (l.length + 2) l = some (strOfNums (l.map digitOf)):=by
  unfold trestleref02_Bits0.f
  rw [if_pos (by omega),if_pos (by simp;omega)]
  simpa using bits_loop l hl l.length 0 (l.length + 2) (by omega) (by omega)
end Go.Proofs.YtojepjkpnponoaaDoor.Stim

