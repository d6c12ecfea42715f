import Derived.Test.YtojepjkpnponoaaDoorHAsc0
import Derived.Test.YtojepjkpnponoaaDoorHAsc3
import Derived.Test.YtojepjkpnponoaaDoorHGV
import Derived.Test.YtojepjkpnponoaaDoorHM18
import Derived.Lib.IndexLaws
import Derived.IntWalk
section
namespace Go.Proofs.YtojepjkpnponoaaDoor.Asc
open Go Go.RowKit Go.Proofs.YtojepjkpnponoaaDoorW.PrintWords
set_option linter.unusedVariables false
set_option linter.unusedSimpArgs false
def Ev {α : Type} (g : Nat → Option α) (r : α) : Prop:=∃ K,∀ k,K ≤ k → g k = some r
theorem Ev.const {α : Type} (r : α) : Ev (fun _ => some r) r:=⟨0,fun _ _ => rfl⟩
theorem Ev.succ {α : Type} {g h : Nat → Option α} {r : α} (hg : ∀ k,g (k + 1) = h k) (hh : Ev h r) : Ev g r:=by
  obtain ⟨K,hK⟩:=hh
  refine ⟨K + 1,fun k hk => ?_⟩
  obtain ⟨j,rfl⟩ : ∃ j,k = j + 1:=⟨k - 1,by omega⟩
  rw [hg,hK j (by omega)]
theorem Ev.congr {α : Type} {g h : Nat → Option α} {r : α} (hg : ∀ k,g k = h k) (hh : Ev h r) : Ev g r:=by
  obtain ⟨K,hK⟩:=hh
  exact ⟨K,fun k hk => by rw [hg,hK k hk]⟩
theorem Ev.bind {α β : Type} {f : Nat → Option α} {g : Nat → α → Option β} {a : α} {r : β} (hf : Ev f a) (hg : Ev (fun k => g k a) r) : Ev (fun k => (f k).bind (g k)) r:=by
  obtain ⟨K,hK⟩:=hf
  obtain ⟨J,hJ⟩:=hg
  exact ⟨K + J,fun k hk => by show (f k).bind (g k) = _;rw [hK k (by omega)];exact hJ k (by omega)⟩
theorem bt_some {s : ByteArray} {i : Nat} {c : UInt8} (h : s.data.toList[i]? = some c) : bt s (i : Int) = (c.toNat : Int):=by
  obtain ⟨hi,hc⟩:=List.getElem?_eq_some_iff.1 h
  have hs : i < s.size:=by rw [data_length] at hi;exact hi
  unfold bt
  rw [dif_pos (by simpa using hs),← hc]
  rfl
theorem bt_none {s : ByteArray} {i : Nat} (h : s.size ≤ i) : bt s (i : Int) = 0:=by
  unfold bt
  rw [dif_neg (by simpa using h)]
theorem bt_ten {s : ByteArray} {i : Nat} {c : UInt8} (h : i < s.size) : bt s (i : Int) = (c.toNat : Int) ↔ s.data.toList[i]? = some c:=by
  have hi : i < s.data.toList.length:=by rw [data_length];exact h
  rw [bt_some (List.getElem?_eq_getElem hi),List.getElem?_eq_getElem hi]
  constructor
  · intro h
    exact congrArg some (UInt8.toNat_inj.1 (by omega))
  · intro h
    injection h with h
    rw [h]
theorem isDigit_f (s : ByteArray) (i : Nat) : trestleref02_isDigit.f s (i : Int) = some (decide (48 ≤ bt s (i : Int) ∧ bt s (i : Int) ≤ 57)):=by
  unfold trestleref02_isDigit.f
  rw [if_pos (by omega)]
  by_cases h : i < s.size
  · rw [if_pos (by omega),if_pos (by omega)]
    by_cases h1 : bt s (i : Int) ≥ 48
    · rw [if_pos h1]
      congr 1
      by_cases h2 : bt s (i : Int) ≤ 57
      · rw [decide_eq_true h2,decide_eq_true ⟨h1,h2⟩]
      · rw [decide_eq_false h2,decide_eq_false (fun h => h2 h.2)]
    · rw [if_neg h1,decide_eq_false (fun h => h1 h.1)]
  · rw [if_neg (by omega),bt_none (by omega)]
    rfl
def scanN : Nat → List UInt8 → Option (Nat × Nat)
  | acc,[] => some (acc,0)
  | acc,c :: r => if 48 ≤ c.toNat ∧ c.toNat ≤ 57 then (if 2147483647 < acc * 10 + (c.toNat - 48) then none else (scanN (acc * 10 + (c.toNat - 48)) r).map fun q => (q.1,q.2 + 1)) else some (acc,0)
def scanEnd (i : Nat) : Option (Nat × Nat) → Int × Int × Bool
  | none => (0,0,false)
  | some (v,n) => ((v : Int),((i + n : Nat) : Int),true)
theorem scanEnd_succ (i : Nat) (r : Option (Nat × Nat)) : scanEnd (i + 1) r = scanEnd i (r.map fun q => (q.1,q.2 + 1)):=by
  cases r with
  | none => rfl
  | some q => simp [scanEnd];omega
theorem number0_loop (s : ByteArray) (hs : s.size ≤ 262144) (m : Nat) : ∀ (i acc : Nat),i + m = s.size → acc ≤ 2147483647 →
    Ev (fun k => trestleref02_Number0.l0 k s (acc : Int) (i : Int)) (scanEnd i (scanN acc (s.data.toList.drop i))):=by
  induction m with
  | zero =>
    intro i acc hi ha
    have e : s.data.toList.drop i = []:=List.drop_eq_nil_of_le (by rw [data_length];omega)
    rw [e]
    refine Ev.succ (fun k => ?_) (Ev.const _)
    unfold trestleref02_Number0.l0
    rw [isDigit_f,bt_none (by omega)]
    rfl
  | succ m ih =>
    intro i acc hi ha
    have hl : i < s.data.toList.length:=by rw [data_length];omega
    obtain ⟨c,hc⟩ : ∃ c,s.data.toList[i]? = some c:=⟨_,List.getElem?_eq_getElem hl⟩
    have hd : s.data.toList.drop i = c :: s.data.toList.drop (i + 1):=by
      rw [List.drop_eq_getElem_cons hl]
      rw [List.getElem?_eq_getElem hl] at hc
      injection hc with hc
      rw [hc]
    have hb:=bt_some hc
    have hc8 : c.toNat < 256:=c.toNat_lt
    rw [hd]
    by_cases h : 48 ≤ c.toNat ∧ c.toNat ≤ 57
    · have hw : wrap64 ((wrap64 ((acc : Int) * 10)) + (((c.toNat : Int) - 48) % 256)) = ((acc * 10 + (c.toNat - 48) : Nat) : Int):=by
        rw [IntWalk.wrap64_in ((acc : Int) * 10) (by omega),IntWalk.wrap64_in _ (by omega)]
        omega
      unfold scanN
      rw [if_pos h]
      by_cases hbig : 2147483647 < acc * 10 + (c.toNat - 48)
      · rw [if_pos hbig]
        refine Ev.succ (fun k => ?_) (Ev.const _)
        unfold trestleref02_Number0.l0
        rw [isDigit_f,hb,hw]
        dsimp only [Option.bind_some]
        rw [if_pos (by simp;omega),if_pos (by omega),if_pos (by omega),if_pos (by omega)]
        rfl
      · rw [if_neg hbig]
        have:=ih (i + 1) (acc * 10 + (c.toNat - 48)) (by omega) (by omega)
        rw [scanEnd_succ] at this
        refine Ev.succ (fun k => ?_) this
        conv => lhs;unfold trestleref02_Number0.l0
        rw [isDigit_f,hb,hw]
        dsimp only [Option.bind_some]
        rw [if_pos (by simp;omega),if_pos (by omega),if_pos (by omega),if_neg (by omega),IntWalk.wrap64_in ((i : Int) + 1) (by omega)]
        rfl
    · unfold scanN
      rw [if_neg h]
      refine Ev.succ (fun k => ?_) (Ev.const _)
      unfold trestleref02_Number0.l0
      rw [isDigit_f,hb]
      dsimp only [Option.bind_some]
      rw [if_neg (by simp;omega)]
      rfl
def dig1 : List UInt8 → Bool
  | [] => false
  | d :: _ => decide (48 ≤ d.toNat ∧ d.toNat ≤ 57)
def numAt (l : List UInt8) : Option (Nat × Nat) :=
  match l with
  | [] => none
  | c :: r => if 48 ≤ c.toNat ∧ c.toNat ≤ 57 then (if c.toNat = 48 ∧ dig1 r = true then none else scanN 0 (c :: r)) else none
theorem number0_ev (s : ByteArray) (hs : s.size ≤ 262144) (i : Nat) : Ev (fun k => trestleref02_Number0.f k s (i : Int)) (scanEnd i (numAt (s.data.toList.drop i))):=by
  have jF : i ≤ s.size → Ev (fun k => trestleref02_Number0.j0 k s (i : Int) false) (scanEnd i (scanN 0 (s.data.toList.drop i))):=fun hi => by
    refine Ev.succ (fun k => ?_) (number0_loop s hs (s.size - i) i 0 (by omega) (by omega))
    conv => lhs;unfold trestleref02_Number0.j0
    rfl
  have jT : Ev (fun k => trestleref02_Number0.j0 k s (i : Int) true) (0,0,false):=Ev.succ (fun k => by simp [trestleref02_Number0.j0]) (Ev.const _)
  by_cases hi : s.size ≤ i
  · have e : s.data.toList.drop i = []:=List.drop_eq_nil_of_le (by rw [data_length];omega)
    rw [e]
    refine Ev.congr (fun k => ?_) jT
    unfold trestleref02_Number0.f
    rw [isDigit_f,bt_none hi]
    rfl
  · have hl : i < s.data.toList.length:=by rw [data_length];omega
    obtain ⟨c,hc⟩ : ∃ c,s.data.toList[i]? = some c:=⟨_,List.getElem?_eq_getElem hl⟩
    have hd : s.data.toList.drop i = c :: s.data.toList.drop (i + 1):=by
      rw [List.drop_eq_getElem_cons hl]
      rw [List.getElem?_eq_getElem hl] at hc
      injection hc with hc
      rw [hc]
    have hb:=bt_some hc
    have hn : bt s (((i + 1 : Nat)) : Int) = (match s.data.toList.drop (i + 1) with|[] => 0|d :: _ => (d.toNat : Int)):=by
      by_cases h1 : s.size ≤ i + 1
      · rw [bt_none h1,List.drop_eq_nil_of_le (by rw [data_length];omega)]
      · have hl1 : i + 1 < s.data.toList.length:=by rw [data_length];omega
        rw [bt_some (List.getElem?_eq_getElem hl1),List.drop_eq_getElem_cons hl1]
    have jF:=jF (by omega)
    rw [hd] at jF
    rw [hd]
    unfold numAt
    dsimp only
    by_cases h : 48 ≤ c.toNat ∧ c.toNat ≤ 57
    · rw [if_pos h]
      by_cases h0 : c.toNat = 48
      · have hf : ∀ k,trestleref02_Number0.f k s (i : Int) = trestleref02_Number0.j0 k s (i : Int) (dig1 (s.data.toList.drop (i + 1))):=by
          intro k
          unfold trestleref02_Number0.f
          rw [isDigit_f,hb]
          dsimp only [Option.bind_some]
          rw [if_pos (by simp;omega),if_pos (by omega),if_pos (by omega),if_pos (by omega),IntWalk.wrap64_in ((i : Int) + 1) (by omega)]
          have:=isDigit_f s (i + 1)
          rw [Int.natCast_add] at this
          rw [show ((i : Int) + 1) = (i : Int) + ((1 : Nat) : Int) from rfl,this,← Int.natCast_add,hn]
          dsimp only [Option.bind_some]
          congr 1
          cases s.data.toList.drop (i + 1) with
          | nil => rfl
          | cons d r => dsimp only [dig1];congr 1;exact propext ⟨fun h => ⟨by omega,by omega⟩,fun h => ⟨by omega,by omega⟩⟩
        cases hz : (dig1 (s.data.toList.drop (i + 1))) with
        | true =>
          rw [if_pos ⟨h0,rfl⟩]
          rw [hz] at hf
          exact Ev.congr hf jT
        | false =>
          rw [if_neg (fun h => by cases h.2)]
          rw [hz] at hf
          exact Ev.congr hf jF
      · rw [if_neg (fun h => h0 h.1)]
        refine Ev.congr (fun k => ?_) jF
        unfold trestleref02_Number0.f
        rw [isDigit_f,hb]
        dsimp only [Option.bind_some]
        rw [if_pos (by simp;omega),if_pos (by omega),if_pos (by omega),if_neg (by omega)]
    · rw [if_neg h]
      refine Ev.congr (fun k => ?_) jT
      unfold trestleref02_Number0.f
      rw [isDigit_f,hb]
      dsimp only [Option.bind_some]
      rw [if_neg (by simp;omega)]
end Go.Proofs.YtojepjkpnponoaaDoor.Asc
end
section
namespace Go.Proofs.YtojepjkpnponoaaDoor.Asc
open Go Go.RowKit Go.Proofs.YtojepjkpnponoaaDoorW.PrintWords
set_option linter.unusedVariables false
set_option linter.unusedSimpArgs false
theorem numA_no {M : List UInt8} (h : ∀ u,Lib.parseUintM 2147483647 0 M ≠ .ok u) : (numA ⟨M.toArray⟩).2 = false:=by
  unfold numA
  have e : Lib.parseUintB 31 M = if M = [] then Lib.parseUintB 31 [] else Lib.parseUintM 2147483647 0 M:=rfl
  have e' : (⟨M.toArray⟩ : ByteArray).data.toList = M:=rfl
  rw [e',e]
  by_cases hM : M = []
  · rw [if_pos hM];rfl
  · rw [if_neg hM]
    cases hp : Lib.parseUintM 2147483647 0 M with
    | ok u => exact absurd hp (h u)
    | _ => rfl
theorem numA_yes {d : UInt8} {M : List UInt8} {u : Nat} (h : Lib.parseUintM 2147483647 0 (d :: M) = .ok u) (hd : 48 ≤ d.toNat) : numA ⟨(d :: M).toArray⟩ = if M ≠ [] ∧ d.toNat = 48 then (0,false) else ((u : Int),true):=by
  unfold numA
  have e : Lib.parseUintB 31 (d :: M) = Lib.parseUintM 2147483647 0 (d :: M):=rfl
  have e' : (⟨(d :: M).toArray⟩ : ByteArray).data.toList = d :: M:=rfl
  have eb : bt ⟨(d :: M).toArray⟩ 0 = (d.toNat : Int):=bt_some (s:=⟨(d :: M).toArray⟩) (i:=0) rfl
  have es : (⟨(d :: M).toArray⟩ : ByteArray).size = M.length + 1:=by rw [← data_length];rfl
  rw [e',e,h,eb,es]
  dsimp only
  cases M with
  | nil => rw [if_neg (by simp;omega),if_neg (by simp)]
  | cons x M =>
    by_cases h8 : d.toNat = 48
    · rw [if_pos (by simp;omega),if_pos ⟨by simp,h8⟩]
    · rw [if_neg (by simp;omega),if_neg (fun h => h8 h.2)]
end Go.Proofs.YtojepjkpnponoaaDoor.Asc
end
section
namespace Go.Proofs.YtojepjkpnponoaaDoor.Asc
open Go Go.RowKit Go.Proofs.YtojepjkpnponoaaDoorW.PrintWords
set_option linter.unusedVariables false
set_option linter.unusedSimpArgs false
def NoDig (T : List UInt8) : Prop:=(∀ a,scanN a T = some (a,0)) ∧ dig1 T = false
theorem noDig_nil : NoDig []:=⟨fun a => rfl,rfl⟩
theorem noDig_blank (N : List UInt8) : NoDig (32 :: N):=⟨fun a => by unfold scanN;rw [if_neg (by decide)],by simp [dig1]⟩
theorem scan_word {T : List UInt8} (hT : NoDig T) : ∀ (M : List UInt8) (acc : Nat),acc ≤ 2147483647 →
    (∃ u,Lib.parseUintM 2147483647 acc M = .ok u ∧ scanN acc (M ++ T) = some (u,M.length) ∧ ∀ c ∈ M,48 ≤ c.toNat ∧ c.toNat ≤ 57) ∨
    ((∀ u,Lib.parseUintM 2147483647 acc M ≠ .ok u) ∧ (scanN acc (M ++ T) = none ∨ ∃ v j,scanN acc (M ++ T) = some (v,j) ∧ j < M.length))
  | [],acc,ha => Or.inl ⟨acc,rfl,hT.1 acc,fun c hc => by cases hc⟩
  | c :: r,acc,ha => by
    rw [List.cons_append]
    unfold Lib.parseUintM scanN
    by_cases h : 48 ≤ c.toNat ∧ c.toNat ≤ 57
    · rw [if_pos h,if_pos h,if_neg (by omega)]
      by_cases hb : 2147483647 < acc * 10 + (c.toNat - 48)
      · rw [if_pos hb,if_pos hb]
        exact Or.inr ⟨(fun u hu => by cases hu),Or.inl rfl⟩
      · rw [if_neg hb,if_neg hb]
        rcases scan_word hT r (acc * 10 + (c.toNat - 48)) (by omega) with ⟨u,h1,h2,h3⟩|⟨h1,h2⟩
        · refine Or.inl ⟨u,h1,by rw [h2];rfl,fun x hx => ?_⟩
          rcases List.mem_cons.1 hx with rfl|hx
          · exact h
          · exact h3 x hx
        · refine Or.inr ⟨h1,?_⟩
          rcases h2 with h2|⟨v,j,h2,hj⟩
          · exact Or.inl (by rw [h2];rfl)
          · exact Or.inr ⟨v,j + 1,by rw [h2];rfl,by simp only [List.length_cons];omega⟩
    · rw [if_neg h,if_neg h]
      exact Or.inr ⟨(fun u hu => by cases hu),Or.inr ⟨acc,0,rfl,Nat.succ_pos _⟩⟩
theorem word_num {T : List UInt8} (hT : NoDig T) (M : List UInt8) :
    (∃ u : Nat,numA ⟨M.toArray⟩ = ((u : Int),true) ∧ numAt (M ++ T) = some (u,M.length)) ∨
    ((numA ⟨M.toArray⟩).2 = false ∧ (numAt (M ++ T) = none ∨ ∃ v j,numAt (M ++ T) = some (v,j) ∧ j < M.length)):=by
  cases M with
  | nil =>
    refine Or.inr ⟨rfl,Or.inl ?_⟩
    rw [List.nil_append]
    cases T with
    | nil => rfl
    | cons c r =>
      have:=hT.2
      unfold numAt
      dsimp only
      rw [if_neg (of_decide_eq_false this)]
  | cons d M =>
    rcases scan_word hT (d :: M) 0 (by omega) with ⟨u,h1,h2,h3⟩|⟨h1,h2⟩
    · have hd:=h3 d (List.mem_cons_self ..)
      have hdig : dig1 (M ++ T) = decide (M ≠ []):=by
        cases M with
        | nil => exact hT.2
        | cons x M =>
          have:=h3 x (List.mem_cons_of_mem _ (List.mem_cons_self ..))
          simp [dig1,this]
      have hnA : numAt (d :: M ++ T) = if M ≠ [] ∧ d.toNat = 48 then none else some (u,(d :: M).length):=by
        rw [List.cons_append]
        unfold numAt
        dsimp only
        rw [if_pos hd,hdig]
        rw [List.cons_append] at h2
        by_cases hz : M ≠ [] ∧ d.toNat = 48
        · rw [if_pos ⟨hz.2,decide_eq_true hz.1⟩,if_pos hz]
        · rw [if_neg (fun h => hz ⟨of_decide_eq_true h.2,h.1⟩),if_neg hz,h2]
      by_cases hz : M ≠ [] ∧ d.toNat = 48
      · rw [if_pos hz] at hnA
        exact Or.inr ⟨by rw [numA_yes h1 hd.1,if_pos hz],Or.inl hnA⟩
      · rw [if_neg hz] at hnA
        exact Or.inl ⟨u,by rw [numA_yes h1 hd.1,if_neg hz],hnA⟩
    · refine Or.inr ⟨numA_no h1,?_⟩
      rw [List.cons_append] at h2 ⊢
      unfold numAt
      dsimp only
      split
      · split
        · exact Or.inl rfl
        · exact h2
      · exact Or.inl rfl
end Go.Proofs.YtojepjkpnponoaaDoor.Asc
end
