import Derived.Test.YtifigmamaakigaaDoorBV8
import Derived.Lib.IndexBytes
namespace Go.Proofs.YtifigmamaakigaaDoor.V
open Go
set_option linter.unusedVariables false
set_option linter.unusedSimpArgs false
def frags : List UInt8 → List (List UInt8)
  | [] => [[]]
  | c :: l => if c = 32 then [] :: frags l else match frags l with
    | f :: fs => (c :: f) :: fs
    | [] => [[c]]
theorem frags_ne (l : List UInt8) : frags l ≠ []:=by
  cases l with
  | nil => simp [frags]
  | cons c l =>
    unfold frags
    split
    · simp
    · split <;> simp
theorem frags_none : ∀ (l : List UInt8),Lib.indexByte l 32 < 0 → frags l = [l]
  | [],_ => rfl
  | c :: l,h => by
    have hg:=Lib.indexByte_ge l 32
    unfold Lib.indexByte at h
    by_cases hc : c = 32
    · subst hc
      simp at h
    · have hc' : (c == 32) = false:=by simpa using hc
      rw [hc'] at h
      by_cases hm : Lib.indexByte l 32 = -1
      · have ih:=frags_none l (by omega)
        simp only [frags,if_neg hc,ih]
      · have hm' : (Lib.indexByte l 32 == -1) = false:=by simpa using hm
        rw [hm'] at h
        simp at h
        omega
theorem frags_some : ∀ (l : List UInt8) (i : Nat),Lib.indexByte l 32 = i → frags l = l.take i :: frags (l.drop (i + 1))
  | [],i,h => by
    unfold Lib.indexByte at h
    omega
  | c :: l,i,h => by
    unfold Lib.indexByte at h
    by_cases hc : c = 32
    · subst hc
      simp at h
      obtain rfl : i = 0:=by omega
      simp [frags]
    · have hc' : (c == 32) = false:=by simpa using hc
      rw [hc'] at h
      by_cases hm : Lib.indexByte l 32 = -1
      · rw [hm] at h
        simp at h
      · have hm' : (Lib.indexByte l 32 == -1) = false:=by simpa using hm
        rw [hm'] at h
        simp at h
        have hg:=Lib.indexByte_ge l 32
        obtain ⟨k,rfl⟩ : ∃ k,i = k + 1:=⟨i - 1,by omega⟩
        have ih:=frags_some l k (by omega)
        simp only [frags,if_neg hc,ih,List.take_succ_cons,List.drop_succ_cons]
def bytesA (l : List UInt8) : ByteArray:=⟨l.toArray⟩
def fragsB (s : ByteArray) : List ByteArray:=(frags s.data.toList).map bytesA
theorem bytesA_data (s : ByteArray) : bytesA s.data.toList = s:=by
  unfold bytesA
  cases s
  simp
theorem extract_list (s : ByteArray) (a b : Nat) : (s.extract a b).data.toList = (s.data.toList.drop a).take (b - a):=by
  have:=Lib.extract_toList s a b
  rwa [Lib.toList_data] at this
theorem fragsB_none (s : ByteArray) (h : Lib.indexByte s.data.toList 32 < 0) : fragsB s = [s]:=by
  unfold fragsB
  rw [frags_none _ h]
  simp [bytesA_data]
theorem size_list (s : ByteArray) : s.data.toList.length = s.size:=by
  cases s
  rfl
theorem fragsB_some (s : ByteArray) (i : Nat) (h : Lib.indexByte s.data.toList 32 = i) : fragsB s = s.extract 0 i :: fragsB (s.extract (i + 1) s.size):=by
  have e1 : bytesA (s.data.toList.take i) = s.extract 0 i:=by
    rw [← bytesA_data (s.extract 0 i),extract_list,List.drop_zero,Nat.sub_zero]
  have e2 : (s.extract (i + 1) s.size).data.toList = s.data.toList.drop (i + 1):=by
    rw [extract_list,List.take_of_length_le]
    rw [List.length_drop,size_list]
    omega
  unfold fragsB
  rw [frags_some _ i h,e2,List.map_cons,e1]
def nl : List UInt8 → Option (List UInt8 × List UInt8)
  | [] => none
  | c :: T => if c = 10 then some ([],T) else (nl T).map fun x => (c :: x.1,x.2)
theorem nl_some : ∀ {T l r : List UInt8},nl T = some (l,r) → T = l ++ 10 :: r ∧ 10 ∉ l
  | [],l,r,h => by cases h
  | c :: T,l,r,h => by
    unfold nl at h
    split at h
    · rename_i hc
      simp only [Option.some.injEq,Prod.mk.injEq] at h
      obtain ⟨rfl,rfl⟩:=h
      subst hc
      exact ⟨rfl,by simp⟩
    · rename_i hc
      cases hn : nl T with
      | none => rw [hn] at h;cases h
      | some x =>
        rw [hn] at h
        simp only [Option.map_some,Option.some.injEq,Prod.mk.injEq] at h
        obtain ⟨rfl,rfl⟩:=h
        obtain ⟨h1,h2⟩:=nl_some (T:=T) (l:=x.1) (r:=x.2) hn
        refine ⟨by rw [List.cons_append,← h1],?_⟩
        simp only [List.mem_cons,not_or]
        exact ⟨fun e => hc e.symm,h2⟩
theorem nl_at : ∀ (l r : List UInt8),10 ∉ l → nl (l ++ 10 :: r) = some (l,r)
  | [],r,_ => by simp [nl]
  | c :: l,r,h => by
    simp only [List.mem_cons,not_or] at h
    rw [List.cons_append,nl,if_neg (fun e => h.1 e.symm),nl_at l r h.2]
    rfl
theorem nl_cut : ∀ T : List UInt8,Lib.cut T [10] = match nl T with
    | some x => (x.1,x.2,true)
    | none => (T,[],false)
  | [] => by decide
  | c :: T => by
    have ih:=nl_cut T
    unfold Lib.cut at ih ⊢
    unfold nl
    by_cases hc : c = 10
    · subst hc
      have : Lib.index (10 :: T) [10] = 0:=by simp [Lib.index,List.isPrefixOf]
      rw [this]
      simp
    · have hp : ([10] : List UInt8).isPrefixOf (c :: T) = false:=by
        simp only [List.isPrefixOf,Bool.and_eq_false_imp,beq_iff_eq]
        exact fun e => absurd e.symm hc
      rw [if_neg hc]
      by_cases hi : Lib.index T [10] = -1
      · have : Lib.index (c :: T) [10] = -1:=by simp [Lib.index,hp,hi]
        rw [hi] at ih
        rw [this]
        cases hn : nl T with
        | none => simp
        | some x => rw [hn] at ih;simp at ih
      · have hg:=Lib.index_ge T [10]
        have : Lib.index (c :: T) [10] = Lib.index T [10] + 1:=by simp [Lib.index,hp,hi]
        rw [if_pos (by omega)] at ih
        rw [this,if_pos (by omega)]
        have e1 : (Lib.index T [10] + 1).toNat = (Lib.index T [10]).toNat + 1:=by omega
        rw [e1]
        cases hn : nl T with
        | none => rw [hn] at ih;simp at ih
        | some x =>
          rw [hn] at ih
          simp only [Prod.mk.injEq,and_true] at ih
          simp only [List.take_succ_cons,Option.map_some,Prod.mk.injEq,and_true]
          refine ⟨by rw [ih.1],?_⟩
          rw [← ih.2]
          simp
theorem parse_append (M : Nat) : ∀ (l r : List UInt8) (acc a : Nat),Lib.parseUintM M acc l = .ok a → Lib.parseUintM M acc (l ++ r) = Lib.parseUintM M a r
  | [],r,acc,a,h => by
    simp only [Lib.parseUintM] at h
    injection h with h
    rw [List.nil_append,h]
  | c :: l,r,acc,a,h => by
    rw [Lib.parseUintM] at h
    rw [List.cons_append,Lib.parseUintM]
    split at h
    · rename_i hc
      rw [if_pos hc]
      split at h
      · cases h
      · rename_i h1
        rw [if_neg h1]
        split at h
        · cases h
        · rename_i h2
          rw [if_neg h2]
          exact parse_append M l r _ a h
    · cases h
theorem parse_digits (M : Nat) (hM : M < 1844674407370955162) (u : Nat) : u ≤ M → Lib.parseUintM M 0 (Lib.decDigits u) = .ok u:=by
  induction u using Nat.strongRecOn with
  | _ u ih =>
    intro hu
    have one : ∀ d a : Nat,d < 10 → a ≤ M → a * 10 + d ≤ M → Lib.parseUintM M a [UInt8.ofNat (48 + d)] = .ok (a * 10 + d):=by
      intro d a hd ha hs
      have e : (UInt8.ofNat (48 + d)).toNat = 48 + d:=by
        rw [UInt8.toNat_ofNat']
        exact Nat.mod_eq_of_lt (by omega)
      unfold Lib.parseUintM
      rw [e,if_pos (by omega),if_neg (by omega),show 48 + d - 48 = d by omega,if_neg (by omega)]
      rfl
    by_cases h : u < 10
    · rw [Lib.decDigits,dif_pos h,one u 0 h (by omega) (by omega)]
      simp
    · rw [Lib.decDigits,dif_neg h,parse_append M _ _ _ _ (ih (u / 10) (by omega) (by omega)),one (u % 10) (u / 10) (by omega) (by omega) (by omega)]
      congr 1
      omega
theorem dec_ne (u : Nat) : Lib.decDigits u ≠ []:=by
  intro h
  have:=Lib.decDigits_length u
  rw [h] at this
  have:=Lib.nDigits_pos u
  simp at *
  omega
theorem dec_digit (u : Nat) : ∀ c ∈ Lib.decDigits u,48 ≤ c.toNat ∧ c.toNat ≤ 57:=by
  induction u using Nat.strongRecOn with
  | _ u ih =>
    have one : ∀ d : Nat,d < 10 → 48 ≤ (UInt8.ofNat (48 + d)).toNat ∧ (UInt8.ofNat (48 + d)).toNat ≤ 57:=by
      intro d hd
      rw [UInt8.toNat_ofNat',Nat.mod_eq_of_lt (by omega)]
      omega
    intro c hc
    by_cases h : u < 10
    · rw [Lib.decDigits,dif_pos h] at hc
      simp only [List.mem_singleton] at hc
      subst hc
      exact one u h
    · rw [Lib.decDigits,dif_neg h,List.mem_append] at hc
      rcases hc with hc|hc
      · exact ih (u / 10) (by omega) c hc
      · simp only [List.mem_singleton] at hc
        subst hc
        exact one (u % 10) (by omega)
theorem itoa_digit (n : Int) (h : 0 ≤ n) : ∀ c ∈ Lib.itoa n,48 ≤ c.toNat ∧ c.toNat ≤ 57:=by
  unfold Lib.itoa
  rw [if_neg (by omega)]
  exact dec_digit _
theorem itoa_ne (n : Int) (h : 0 ≤ n) : Lib.itoa n ≠ []:=by
  unfold Lib.itoa
  rw [if_neg (by omega)]
  exact dec_ne _
theorem itoa_no (n : Int) (h : 0 ≤ n) (c : UInt8) (hc : c.toNat < 48) : c ∉ Lib.itoa n:=fun hm => by
  have:=itoa_digit n h c hm
  omega
theorem bytes_of (l : List UInt8) : (bytesA l).data.toList = l:=by simp [bytesA]
theorem bytes_size (l : List UInt8) : (bytesA l).size = l.length:=by rw [← size_list,bytes_of]
def joined : List (List UInt8) → List UInt8
  | [] => []
  | [f] => f
  | f :: g :: fs => f ++ 32 :: joined (g :: fs)
theorem frags_joined : ∀ (l : List UInt8),joined (frags l) = l
  | [] => rfl
  | c :: l => by
    have ih:=frags_joined l
    unfold frags
    split
    · rename_i hc
      subst hc
      cases hf : frags l with
      | nil => exact absurd hf (frags_ne l)
      | cons f fs => rw [hf] at ih;simp [joined,ih]
    · cases hf : frags l with
      | nil => exact absurd hf (frags_ne l)
      | cons f fs =>
        rw [hf] at ih
        cases fs with
        | nil => simp only [joined] at ih ⊢;rw [ih]
        | cons g gs => simp only [joined] at ih ⊢;rw [List.cons_append,ih]
theorem frags_one : ∀ (f : List UInt8),32 ∉ f → frags f = [f]
  | [],_ => rfl
  | c :: f,h => by
    simp only [List.mem_cons,not_or] at h
    rw [frags,if_neg (fun e => h.1 e.symm),frags_one f h.2]
theorem frags_two : ∀ (f r : List UInt8),32 ∉ f → frags (f ++ 32 :: r) = f :: frags r
  | [],r,_ => by simp [frags]
  | c :: f,r,h => by
    simp only [List.mem_cons,not_or] at h
    rw [List.cons_append,frags,if_neg (fun e => h.1 e.symm),frags_two f r h.2]
theorem joined_frags : ∀ (fs : List (List UInt8)),fs ≠ [] → (∀ f ∈ fs,32 ∉ f) → frags (joined fs) = fs
  | [],h,_ => absurd rfl h
  | [f],_,h => frags_one f (h f (by simp))
  | f :: g :: fs,_,h => by
    rw [joined,frags_two _ _ (h f (by simp)),joined_frags (g :: fs) (by simp) (fun x hx => h x (by simp [hx]))]
end Go.Proofs.YtifigmamaakigaaDoor.V

