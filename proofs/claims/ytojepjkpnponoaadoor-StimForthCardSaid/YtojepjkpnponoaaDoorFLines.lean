import Derived.Test.YtojepjkpnponoaaDoorFGPrint
import Derived.Test.YtojepjkpnponoaaDoorFGProperties
import Derived.Test.YtojepjkpnponoaaDoorFGRow
import Derived.Test.YtojepjkpnponoaaDoorFGNumber
set_option linter.unusedSimpArgs false
namespace Go.Proofs.YtojepjkpnponoaaDoor.Stim
open Go Go.RowKit Go.Proofs.YtojepjkpnponoaaDoorW.PrintWords
set_option linter.unusedVariables false
def nl : List UInt8 → Option (List UInt8 × List UInt8)
  | [] => none
  | c :: T => if c = 10 then some ([],T) else (nl T).map fun x => (c :: x.1,x.2)
theorem nl_some : ∀ {T l r : List UInt8},nl T = some (l,r) → T = l ++ 10 :: r ∧ 10 ∉ l
  | [],l,r,h => by cases h
  | c :: T,l,r,h => by
    unfold nl at h
    split at h
    · rename_i hc
      simp only [Option.some.injEq,Prod.mk.injEq] at h
      obtain ⟨rfl,rfl⟩:=h
      subst hc
      exact ⟨rfl,by simp⟩
    · rename_i hc
      cases hn : nl T with
      | none => rw [hn] at h;cases h
      | some x =>
        rw [hn] at h
        simp only [Option.map_some,Option.some.injEq,Prod.mk.injEq] at h
        obtain ⟨rfl,rfl⟩:=h
        obtain ⟨h1,h2⟩:=nl_some (T:=T) (l:=x.1) (r:=x.2) hn
        refine ⟨by rw [List.cons_append,← h1],?_⟩
        simp only [List.mem_cons,not_or]
        exact ⟨fun e => hc e.symm,h2⟩
theorem nl_at : ∀ (l r : List UInt8),10 ∉ l → nl (l ++ 10 :: r) = some (l,r)
  | [],r,_ => by simp [nl]
  | c :: l,r,h => by
    simp only [List.mem_cons,not_or] at h
    rw [List.cons_append,nl,if_neg (fun e => h.1 e.symm),nl_at l r h.2]
    rfl
theorem nl_more {T l r : List UInt8} (R : List UInt8) (h : nl T = some (l,r)) : nl (T ++ R) = some (l,r ++ R):=by
  obtain ⟨rfl,h2⟩:=nl_some h
  rw [List.append_assoc,List.cons_append]
  exact nl_at _ _ h2
theorem nl_cut : ∀ T : List UInt8,Lib.cut T [10] = match nl T with
    | some x => (x.1,x.2,true)
    | none => (T,[],false)
  | [] => by decide
  | c :: T => by
    have ih:=nl_cut T
    unfold Lib.cut at ih ⊢
    unfold nl
    by_cases hc : c = 10
    · subst hc
      have : Lib.index (10 :: T) [10] = 0:=by simp [Lib.index,List.isPrefixOf]
      rw [this]
      simp
    · have hp : ([10] : List UInt8).isPrefixOf (c :: T) = false:=by
        simp only [List.isPrefixOf,Bool.and_eq_false_imp,beq_iff_eq]
        exact fun e => absurd e.symm hc
      rw [if_neg hc]
      by_cases hi : Lib.index T [10] = -1
      · have : Lib.index (c :: T) [10] = -1:=by simp [Lib.index,hp,hi]
        rw [hi] at ih
        rw [this]
        cases hn : nl T with
        | none => simp
        | some x => rw [hn] at ih;simp at ih
      · have hg:=Lib.index_ge T [10]
        have : Lib.index (c :: T) [10] = Lib.index T [10] + 1:=by simp [Lib.index,hp,hi]
        rw [if_pos (by omega)] at ih
        rw [this,if_pos (by omega)]
        have e1 : (Lib.index T [10] + 1).toNat = (Lib.index T [10]).toNat + 1:=by omega
        rw [e1]
        cases hn : nl T with
        | none => rw [hn] at ih;simp at ih
        | some x =>
          rw [hn] at ih
          simp only [Prod.mk.injEq,and_true] at ih
          simp only [List.take_succ_cons,Option.map_some,Prod.mk.injEq,and_true]
          refine ⟨by rw [ih.1],?_⟩
          rw [← ih.2]
          simp
theorem nl_len {T l r : List UInt8} (h : nl T = some (l,r)) : T.length = l.length + 1 + r.length:=by
  obtain ⟨rfl,_⟩:=nl_some h
  simp
  omega
theorem num_some {l : List UInt8} {n : Int} (h : numOf l = (n,true)) : l = Lib.itoa n ∧ 0 ≤ n ∧ n < 16384:=by
  unfold numOf at h
  split at h
  · rename_i u hu
    simp only [Prod.mk.injEq,Bool.and_eq_true,beq_iff_eq,decide_eq_true_eq] at h
    obtain ⟨rfl,h2,h3⟩:=h
    exact ⟨h2.symm,by omega,by omega⟩
  · simp at h
  · simp at h
def wordOf (p : S83) : List UInt8:=UInt8.ofNat p.f0.toNat :: Lib.itoa p.f1
theorem bytes_of (l : List UInt8) : (bytesA l).data.toList = l:=by simp [bytesA]
theorem bytes_size (l : List UInt8) : (bytesA l).size = l.length:=by rw [← size_list,bytes_of]
theorem bytes_tail (c : UInt8) (l : List UInt8) : ((bytesA (c :: l)).extract 1 (bytesA (c :: l)).size).data.toList = l:=by
  rw [extract_list,bytes_of,bytes_size]
  simp
theorem bytes_head (c : UInt8) (l : List UInt8) : bt (bytesA (c :: l)) 0 = (c.toNat : Int):=by
  unfold bt
  rw [dif_pos (by rw [bytes_size];simp)]
  rfl
theorem prop_word {l : List UInt8} {p : S83} (h : propOf (bytesA l) = some p) : l = wordOf p ∧ 0 ≤ p.f0 ∧ p.f0 < 256 ∧ 0 ≤ p.f1 ∧ p.f1 < 16384:=by
  unfold propOf at h
  split at h
  · cases h
  · rename_i hs
    rw [bytes_size] at hs
    match l,hs with
    | c :: l,_ =>
      rw [bytes_tail,bytes_head] at h
      split at h
      · rename_i hn
        simp only [Option.some.injEq] at h
        subst h
        have hx : numOf l = ((numOf l).1,true):=by rw [← hn]
        obtain ⟨h1,h2,h3⟩:=num_some hx
        refine ⟨?_,by simp,?_,h2,h3⟩
        · unfold wordOf
          simp only [Int.toNat_natCast,← h1]
          simp
        · have:=c.toNat_lt
          simp only
          omega
      · cases h
    | [],hs => exact absurd (by simp) hs
def joined : List (List UInt8) → List UInt8
  | [] => []
  | [f] => f
  | f :: g :: fs => f ++ 32 :: joined (g :: fs)
theorem frags_joined : ∀ (l : List UInt8),joined (frags l) = l
  | [] => rfl
  | c :: l => by
    have ih:=frags_joined l
    unfold frags
    split
    · rename_i hc
      subst hc
      cases hf : frags l with
      | nil => exact absurd hf (frags_ne l)
      | cons f fs => rw [hf] at ih;simp [joined,ih]
    · cases hf : frags l with
      | nil => exact absurd hf (frags_ne l)
      | cons f fs =>
        rw [hf] at ih
        cases fs with
        | nil => simp only [joined] at ih ⊢;rw [ih]
        | cons g gs => simp only [joined] at ih ⊢;rw [List.cons_append,ih]
theorem props_tail (l : List S83) : ∀ k : Nat,1 ≤ k → (l.zipIdx k).flatMap (fun x => propBytes (x.2 == 0) x.1) = l.flatMap fun p => 32 :: wordOf p:=by
  induction l with
  | nil => intro k hk;rfl
  | cons p l ih =>
    intro k hk
    rw [List.zipIdx_cons,List.flatMap_cons,ih (k + 1) (by omega),List.flatMap_cons]
    have : (k == 0) = false:=by
      rw [beq_eq_false_iff_ne]
      omega
    simp [propBytes,wordOf,this]
theorem props_cons (p : S83) (l : List S83) : propsBytes (p :: l) = wordOf p ++ l.flatMap fun p => 32 :: wordOf p:=by
  unfold propsBytes
  rw [List.zipIdx_cons,List.flatMap_cons,props_tail l 1 (Nat.le_refl _)]
  simp [propBytes,wordOf]
theorem props_joined : ∀ (l : List S83),l ≠ [] → propsBytes l = joined (l.map wordOf)
  | [],h => absurd rfl h
  | [p],_ => by rw [props_cons];simp [joined]
  | p :: q :: l,_ => by
    have ih:=props_joined (q :: l) (by simp)
    rw [props_cons] at ih
    rw [props_cons]
    simp only [List.map_cons,List.flatMap_cons,joined] at ih ⊢
    rw [← ih]
    simp
theorem words_props : ∀ (ws : List (List UInt8)) (l : List S83),propsOf (ws.map bytesA) = some l → ws = l.map wordOf ∧ ∀ p ∈ l,0 ≤ p.f0 ∧ p.f0 < 256 ∧ 0 ≤ p.f1 ∧ p.f1 < 16384
  | [],l,h => by
    simp only [List.map_nil,propsOf,Option.some.injEq] at h
    subst h
    exact ⟨rfl,by simp⟩
  | w :: ws,l,h => by
    simp only [List.map_cons,propsOf] at h
    cases hp : propOf (bytesA w) with
    | none => rw [hp] at h;cases h
    | some p =>
      rw [hp] at h
      simp only [Option.bind_some] at h
      cases hq : propsOf (ws.map bytesA) with
      | none => rw [hq] at h;cases h
      | some ps =>
        rw [hq] at h
        simp only [Option.bind_some,Option.some.injEq] at h
        subst h
        obtain ⟨e1,e2⟩:=words_props ws ps hq
        obtain ⟨w1,w2⟩:=prop_word hp
        refine ⟨by rw [List.map_cons,← e1,← w1],fun q hq => ?_⟩
        rcases List.mem_cons.1 hq with rfl|hq
        · exact w2
        · exact e2 q hq
theorem row_some : ∀ (l : List UInt8) (bs : List Bool),rowOf l = some bs → l.length = bs.length ∧ 10 ∉ l ∧ (120 ∉ l → l = bs.map fun b => if b then 49 else 48)
  | [],bs,h => by
    simp only [rowOf,Option.some.injEq] at h
    subst h
    exact ⟨rfl,by simp,fun _ => rfl⟩
  | c :: l,bs,h => by
    simp only [rowOf] at h
    cases ht : truthOf c with
    | none => rw [ht] at h;cases h
    | some b =>
      rw [ht] at h
      simp only [Option.bind_some] at h
      cases hr : rowOf l with
      | none => rw [hr] at h;cases h
      | some cs =>
        rw [hr] at h
        simp only [Option.bind_some,Option.some.injEq] at h
        subst h
        obtain ⟨h1,h2,h3⟩:=row_some l cs hr
        unfold truthOf at ht
        split at ht
        · rename_i hc
          simp only [Option.some.injEq] at ht
          subst ht
          refine ⟨by simp [h1],?_,fun hx => ?_⟩
          · simp only [List.mem_cons,not_or]
            refine ⟨?_,h2⟩
            rcases hc with rfl|rfl|rfl <;> decide
          · simp only [List.mem_cons,not_or] at hx
            rw [List.map_cons,← h3 hx.2]
            rcases hc with rfl|rfl|rfl
            · rfl
            · rfl
            · exact absurd rfl hx.1
        · cases ht
end Go.Proofs.YtojepjkpnponoaaDoor.Stim

