import Derived.Test.YtojepjkpnponoaaDoorBGPrint
import Derived.Test.YtojepjkpnponoaaDoorBGProperties
import Derived.Test.YtojepjkpnponoaaDoorBGRow
import Derived.Test.YtojepjkpnponoaaDoorBGNumber
set_option linter.unusedSimpArgs false
namespace Go.Proofs.YtojepjkpnponoaaDoor.Stim
open Go Go.RowKit Go.Proofs.YtojepjkpnponoaaDoorW.PrintWords
set_option linter.unusedVariables false
def nl : List UInt8 → Option (List UInt8 × List UInt8)
  | [] => none
  | c :: T => if c = 10 then some ([],T) else (nl T).map fun x => (c :: x.1,x.2)
theorem nl_some : ∀ {T l r : List UInt8},nl T = some (l,r) → T = l ++ 10 :: r ∧ 10 ∉ l
  | [],l,r,h => by cases h
  | c :: T,l,r,h => by
    unfold nl at h
    split at h
    · rename_i hc
      simp only [Option.some.injEq,Prod.mk.injEq] at h
      obtain ⟨rfl,rfl⟩:=h
      subst hc
      exact ⟨rfl,by simp⟩
    · rename_i hc
      cases hn : nl T with
      | none => rw [hn] at h;cases h
      | some x =>
        rw [hn] at h
        simp only [Option.map_some,Option.some.injEq,Prod.mk.injEq] at h
        obtain ⟨rfl,rfl⟩:=h
        obtain ⟨h1,h2⟩:=nl_some (T:=T) (l:=x.1) (r:=x.2) hn
        refine ⟨by rw [List.cons_append,← h1],?_⟩
        simp only [List.mem_cons,not_or]
        exact ⟨fun e => hc e.symm,h2⟩
theorem nl_at : ∀ (l r : List UInt8),10 ∉ l → nl (l ++ 10 :: r) = some (l,r)
  | [],r,_ => by simp [nl]
  | c :: l,r,h => by
    simp only [List.mem_cons,not_or] at h
    rw [List.cons_append,nl,if_neg (fun e => h.1 e.symm),nl_at l r h.2]
    rfl
theorem nl_cut : ∀ T : List UInt8,Lib.cut T [10] = match nl T with
    | some x => (x.1,x.2,true)
    | none => (T,[],false)
  | [] => by decide
  | c :: T => by
    have ih:=nl_cut T
    unfold Lib.cut at ih ⊢
    unfold nl
    by_cases hc : c = 10
    · subst hc
      have : Lib.index (10 :: T) [10] = 0:=by simp [Lib.index,List.isPrefixOf]
      rw [this]
      simp
    · have hp : ([10] : List UInt8).isPrefixOf (c :: T) = false:=by
        simp only [List.isPrefixOf,Bool.and_eq_false_imp,beq_iff_eq]
        exact fun e => absurd e.symm hc
      rw [if_neg hc]
      by_cases hi : Lib.index T [10] = -1
      · have : Lib.index (c :: T) [10] = -1:=by simp [Lib.index,hp,hi]
        rw [hi] at ih
        rw [this]
        cases hn : nl T with
        | none => simp
        | some x => rw [hn] at ih;simp at ih
      · have hg:=Lib.index_ge T [10]
        have : Lib.index (c :: T) [10] = Lib.index T [10] + 1:=by simp [Lib.index,hp,hi]
        rw [if_pos (by omega)] at ih
        rw [this,if_pos (by omega)]
        have e1 : (Lib.index T [10] + 1).toNat = (Lib.index T [10]).toNat + 1:=by omega
        rw [e1]
        cases hn : nl T with
        | none => rw [hn] at ih;simp at ih
        | some x =>
          rw [hn] at ih
          simp only [Prod.mk.injEq,and_true] at ih
          simp only [List.take_succ_cons,Option.map_some,Prod.mk.injEq,and_true]
          refine ⟨by rw [ih.1],?_⟩
          rw [← ih.2]
          simp
theorem nl_len {T l r : List UInt8} (h : nl T = some (l,r)) : T.length = l.length + 1 + r.length:=by
  obtain ⟨rfl,_⟩:=nl_some h
  simp
  omega
theorem parse_append (M : Nat) : ∀ (l r : List UInt8) (acc a : Nat),Lib.parseUintM M acc l = .ok a → Lib.parseUintM M acc (l ++ r) = Lib.parseUintM M a r
  | [],r,acc,a,h => by
    simp only [Lib.parseUintM] at h
    injection h with h
    rw [List.nil_append,h]
  | c :: l,r,acc,a,h => by
    rw [Lib.parseUintM] at h
    rw [List.cons_append,Lib.parseUintM]
    split at h
    · rename_i hc
      rw [if_pos hc]
      split at h
      · cases h
      · rename_i h1
        rw [if_neg h1]
        split at h
        · cases h
        · rename_i h2
          rw [if_neg h2]
          exact parse_append M l r _ a h
    · cases h
theorem parse_digits (M : Nat) (hM : M < 1844674407370955162) (u : Nat) : u ≤ M → Lib.parseUintM M 0 (Lib.decDigits u) = .ok u:=by
  induction u using Nat.strongRecOn with
  | _ u ih =>
    intro hu
    have one : ∀ d a : Nat,d < 10 → a ≤ M → a * 10 + d ≤ M → Lib.parseUintM M a [UInt8.ofNat (48 + d)] = .ok (a * 10 + d):=by
      intro d a hd ha hs
      have e : (UInt8.ofNat (48 + d)).toNat = 48 + d:=by
        rw [UInt8.toNat_ofNat']
        exact Nat.mod_eq_of_lt (by omega)
      unfold Lib.parseUintM
      rw [e,if_pos (by omega),if_neg (by omega),show 48 + d - 48 = d by omega,if_neg (by omega)]
      rfl
    by_cases h : u < 10
    · rw [Lib.decDigits,dif_pos h,one u 0 h (by omega) (by omega)]
      simp
    · rw [Lib.decDigits,dif_neg h,parse_append M _ _ _ _ (ih (u / 10) (by omega) (by omega)),one (u % 10) (u / 10) (by omega) (by omega) (by omega)]
      congr 1
      omega
theorem dec_ne (u : Nat) : Lib.decDigits u ≠ []:=by
  intro h
  have:=Lib.decDigits_length u
  rw [h] at this
  have:=Lib.nDigits_pos u
  simp at *
  omega
theorem dec_digit (u : Nat) : ∀ c ∈ Lib.decDigits u,48 ≤ c.toNat ∧ c.toNat ≤ 57:=by
  induction u using Nat.strongRecOn with
  | _ u ih =>
    have one : ∀ d : Nat,d < 10 → 48 ≤ (UInt8.ofNat (48 + d)).toNat ∧ (UInt8.ofNat (48 + d)).toNat ≤ 57:=by
      intro d hd
      rw [UInt8.toNat_ofNat',Nat.mod_eq_of_lt (by omega)]
      omega
    intro c hc
    by_cases h : u < 10
    · rw [Lib.decDigits,dif_pos h] at hc
      simp only [List.mem_singleton] at hc
      subst hc
      exact one u h
    · rw [Lib.decDigits,dif_neg h,List.mem_append] at hc
      rcases hc with hc|hc
      · exact ih (u / 10) (by omega) c hc
      · simp only [List.mem_singleton] at hc
        subst hc
        exact one (u % 10) (by omega)
theorem itoa_digit (n : Int) (h : 0 ≤ n) : ∀ c ∈ Lib.itoa n,48 ≤ c.toNat ∧ c.toNat ≤ 57:=by
  unfold Lib.itoa
  rw [if_neg (by omega)]
  exact dec_digit _
theorem itoa_ne (n : Int) (h : 0 ≤ n) : Lib.itoa n ≠ []:=by
  unfold Lib.itoa
  rw [if_neg (by omega)]
  exact dec_ne _
theorem itoa_no (n : Int) (h : 0 ≤ n) (c : UInt8) (hc : c.toNat < 48) : c ∉ Lib.itoa n:=fun hm => by
  have:=itoa_digit n h c hm
  omega
theorem num_itoa (n : Int) (h0 : 0 ≤ n) (h1 : n < 16384) : numOf (Lib.itoa n) = (n,true):=by
  have e : Lib.itoa n = Lib.decDigits n.toNat:=by
    unfold Lib.itoa
    rw [if_neg (by omega)]
  have hp : Lib.parseUintB 31 (Lib.itoa n) = .ok n.toNat:=by
    unfold Lib.parseUintB
    rw [if_neg (itoa_ne n h0),e]
    exact parse_digits _ (by decide) _ (by omega)
  unfold numOf
  rw [hp]
  have e2 : ((n.toNat : Nat) : Int) = n:=by omega
  simp only [e2,beq_self_eq_true,Bool.true_and,Prod.mk.injEq,true_and,decide_eq_true_eq]
  omega
def wordOf (p : S83) : List UInt8:=UInt8.ofNat p.f0.toNat :: Lib.itoa p.f1
theorem bytes_of (l : List UInt8) : (bytesA l).data.toList = l:=by simp [bytesA]
theorem bytes_size (l : List UInt8) : (bytesA l).size = l.length:=by rw [← size_list,bytes_of]
theorem bytes_tail (c : UInt8) (l : List UInt8) : ((bytesA (c :: l)).extract 1 (bytesA (c :: l)).size).data.toList = l:=by
  rw [extract_list,bytes_of,bytes_size]
  simp
theorem bytes_head (c : UInt8) (l : List UInt8) : bt (bytesA (c :: l)) 0 = (c.toNat : Int):=by
  unfold bt
  rw [dif_pos (by rw [bytes_size];simp)]
  rfl
theorem word_prop (p : S83) (h0 : 0 ≤ p.f0) (h1 : p.f0 < 256) (h2 : 0 ≤ p.f1) (h3 : p.f1 < 16384) : propOf (bytesA (wordOf p)) = some p:=by
  unfold propOf wordOf
  have hn:=itoa_ne p.f1 h2
  have hl : 1 ≤ (Lib.itoa p.f1).length:=by
    cases h : Lib.itoa p.f1 with
    | nil => exact absurd h hn
    | cons a b => simp
  rw [if_neg (by rw [bytes_size];simp;omega),bytes_tail,num_itoa _ h2 h3,bytes_head,if_pos rfl]
  congr 1
  have e : ((UInt8.ofNat p.f0.toNat).toNat : Int) = p.f0:=by
    rw [UInt8.toNat_ofNat',Nat.mod_eq_of_lt (by omega)]
    omega
  cases p
  simp only at e ⊢
  rw [e]
def joined : List (List UInt8) → List UInt8
  | [] => []
  | [f] => f
  | f :: g :: fs => f ++ 32 :: joined (g :: fs)
theorem frags_one : ∀ (f : List UInt8),32 ∉ f → frags f = [f]
  | [],_ => rfl
  | c :: f,h => by
    simp only [List.mem_cons,not_or] at h
    rw [frags,if_neg (fun e => h.1 e.symm),frags_one f h.2]
theorem frags_two : ∀ (f r : List UInt8),32 ∉ f → frags (f ++ 32 :: r) = f :: frags r
  | [],r,_ => by simp [frags]
  | c :: f,r,h => by
    simp only [List.mem_cons,not_or] at h
    rw [List.cons_append,frags,if_neg (fun e => h.1 e.symm),frags_two f r h.2]
theorem joined_frags : ∀ (fs : List (List UInt8)),fs ≠ [] → (∀ f ∈ fs,32 ∉ f) → frags (joined fs) = fs
  | [],h,_ => absurd rfl h
  | [f],_,h => frags_one f (h f (by simp))
  | f :: g :: fs,_,h => by
    rw [joined,frags_two _ _ (h f (by simp)),joined_frags (g :: fs) (by simp) (fun x hx => h x (by simp [hx]))]
theorem props_tail (l : List S83) : ∀ k : Nat,1 ≤ k → (l.zipIdx k).flatMap (fun x => propBytes (x.2 == 0) x.1) = l.flatMap fun p => 32 :: wordOf p:=by
  induction l with
  | nil => intro k hk;rfl
  | cons p l ih =>
    intro k hk
    rw [List.zipIdx_cons,List.flatMap_cons,ih (k + 1) (by omega),List.flatMap_cons]
    have : (k == 0) = false:=by
      rw [beq_eq_false_iff_ne]
      omega
    simp [propBytes,wordOf,this]
theorem props_cons (p : S83) (l : List S83) : propsBytes (p :: l) = wordOf p ++ l.flatMap fun p => 32 :: wordOf p:=by
  unfold propsBytes
  rw [List.zipIdx_cons,List.flatMap_cons,props_tail l 1 (Nat.le_refl _)]
  simp [propBytes,wordOf]
theorem props_joined : ∀ (l : List S83),l ≠ [] → propsBytes l = joined (l.map wordOf)
  | [],h => absurd rfl h
  | [p],_ => by rw [props_cons];simp [joined]
  | p :: q :: l,_ => by
    have ih:=props_joined (q :: l) (by simp)
    rw [props_cons] at ih
    rw [props_cons]
    simp only [List.map_cons,List.flatMap_cons,joined] at ih ⊢
    rw [← ih]
    simp
theorem propsOf_words : ∀ (l : List S83),(∀ p ∈ l,0 ≤ p.f0 ∧ p.f0 < 256 ∧ 0 ≤ p.f1 ∧ p.f1 < 16384) → propsOf ((l.map wordOf).map bytesA) = some l
  | [],_ => rfl
  | p :: l,h => by
    obtain ⟨h0,h1,h2,h3⟩:=h p (by simp)
    simp only [List.map_cons,propsOf]
    rw [word_prop p h0 h1 h2 h3,propsOf_words l (fun q hq => h q (by simp [hq]))]
    rfl
theorem row_bytes (r : List Bool) : rowOf (r.map fun b => if b then 49 else 48) = some r:=by
  induction r with
  | nil => rfl
  | cons b r ih =>
    simp only [List.map_cons,rowOf,ih]
    cases b <;> rfl
end Go.Proofs.YtojepjkpnponoaaDoor.Stim

