import Derived.Test.YtojepjkpnponoaaDoorTAsc4
import Derived.Test.YtojepjkpnponoaaDoorTM20
import Derived.Lib.IndexLaws
import Derived.IntWalk
section
namespace Go.Proofs.YtojepjkpnponoaaDoor.Asc
open Go Go.RowKit Go.Proofs.YtojepjkpnponoaaDoorW.PrintWords
set_option linter.unusedVariables false
set_option linter.unusedSimpArgs false
def Ev {α : Type} (g : Nat → Option α) (r : α) : Prop:=∃ K,∀ k,K ≤ k → g k = some r
theorem Ev.const {α : Type} (r : α) : Ev (fun _ => some r) r:=⟨0,fun _ _ => rfl⟩
theorem Ev.succ {α : Type} {g h : Nat → Option α} {r : α} (hg : ∀ k,g (k + 1) = h k) (hh : Ev h r) : Ev g r:=by
  obtain ⟨K,hK⟩:=hh
  refine ⟨K + 1,fun k hk => ?_⟩
  obtain ⟨j,rfl⟩ : ∃ j,k = j + 1:=⟨k - 1,by omega⟩
  rw [hg,hK j (by omega)]
theorem Ev.congr {α : Type} {g h : Nat → Option α} {r : α} (hg : ∀ k,g k = h k) (hh : Ev h r) : Ev g r:=by
  obtain ⟨K,hK⟩:=hh
  exact ⟨K,fun k hk => by rw [hg,hK k hk]⟩
theorem Ev.bind {α β : Type} {f : Nat → Option α} {g : Nat → α → Option β} {a : α} {r : β} (hf : Ev f a) (hg : Ev (fun k => g k a) r) : Ev (fun k => (f k).bind (g k)) r:=by
  obtain ⟨K,hK⟩:=hf
  obtain ⟨J,hJ⟩:=hg
  exact ⟨K + J,fun k hk => by show (f k).bind (g k) = _;rw [hK k (by omega)];exact hJ k (by omega)⟩
theorem bt_some {s : ByteArray} {i : Nat} {c : UInt8} (h : s.data.toList[i]? = some c) : bt s (i : Int) = (c.toNat : Int):=by
  obtain ⟨hi,hc⟩:=List.getElem?_eq_some_iff.1 h
  have hs : i < s.size:=by rw [data_length] at hi;exact hi
  unfold bt
  rw [dif_pos (by simpa using hs),← hc]
  rfl
theorem bt_none {s : ByteArray} {i : Nat} (h : s.size ≤ i) : bt s (i : Int) = 0:=by
  unfold bt
  rw [dif_neg (by simpa using h)]
theorem bt_ten {s : ByteArray} {i : Nat} {c : UInt8} (h : i < s.size) : bt s (i : Int) = (c.toNat : Int) ↔ s.data.toList[i]? = some c:=by
  have hi : i < s.data.toList.length:=by rw [data_length];exact h
  rw [bt_some (List.getElem?_eq_getElem hi),List.getElem?_eq_getElem hi]
  constructor
  · intro h
    exact congrArg some (UInt8.toNat_inj.1 (by omega))
  · intro h
    injection h with h
    rw [h]
theorem isDigit_f (s : ByteArray) (i : Nat) : trestleref02_isDigit.f s (i : Int) = some (decide (48 ≤ bt s (i : Int) ∧ bt s (i : Int) ≤ 57)):=by
  unfold trestleref02_isDigit.f
  rw [if_pos (by omega)]
  by_cases h : i < s.size
  · rw [if_pos (by omega),if_pos (by omega)]
    by_cases h1 : bt s (i : Int) ≥ 48
    · rw [if_pos h1]
      congr 1
      by_cases h2 : bt s (i : Int) ≤ 57
      · rw [decide_eq_true h2,decide_eq_true ⟨h1,h2⟩]
      · rw [decide_eq_false h2,decide_eq_false (fun h => h2 h.2)]
    · rw [if_neg h1,decide_eq_false (fun h => h1 h.1)]
  · rw [if_neg (by omega),bt_none (by omega)]
    rfl
def scanN : Nat → List UInt8 → Option (Nat × Nat)
  | acc,[] => some (acc,0)
  | acc,c :: r => if 48 ≤ c.toNat ∧ c.toNat ≤ 57 then (if 2147483647 < acc * 10 + (c.toNat - 48) then none else (scanN (acc * 10 + (c.toNat - 48)) r).map fun q => (q.1,q.2 + 1)) else some (acc,0)
def scanEnd (i : Nat) : Option (Nat × Nat) → Int × Int × Bool
  | none => (0,0,false)
  | some (v,n) => ((v : Int),((i + n : Nat) : Int),true)
theorem scanEnd_succ (i : Nat) (r : Option (Nat × Nat)) : scanEnd (i + 1) r = scanEnd i (r.map fun q => (q.1,q.2 + 1)):=by
  cases r with
  | none => rfl
  | some q => simp [scanEnd];omega
theorem number0_loop (s : ByteArray) (hs : s.size ≤ 262144) (m : Nat) : ∀ (i acc : Nat),i + m = s.size → acc ≤ 2147483647 →
    Ev (fun k => trestleref02_Number0.l0 k s (acc : Int) (i : Int)) (scanEnd i (scanN acc (s.data.toList.drop i))):=by
  induction m with
  | zero =>
    intro i acc hi ha
    have e : s.data.toList.drop i = []:=List.drop_eq_nil_of_le (by rw [data_length];omega)
    rw [e]
    refine Ev.succ (fun k => ?_) (Ev.const _)
    unfold trestleref02_Number0.l0
    rw [isDigit_f,bt_none (by omega)]
    rfl
  | succ m ih =>
    intro i acc hi ha
    have hl : i < s.data.toList.length:=by rw [data_length];omega
    obtain ⟨c,hc⟩ : ∃ c,s.data.toList[i]? = some c:=⟨_,List.getElem?_eq_getElem hl⟩
    have hd : s.data.toList.drop i = c :: s.data.toList.drop (i + 1):=by
      rw [List.drop_eq_getElem_cons hl]
      rw [List.getElem?_eq_getElem hl] at hc
      injection hc with hc
      rw [hc]
    have hb:=bt_some hc
    have hc8 : c.toNat < 256:=c.toNat_lt
    rw [hd]
    by_cases h : 48 ≤ c.toNat ∧ c.toNat ≤ 57
    · have hw : wrap64 ((wrap64 ((acc : Int) * 10)) + (((c.toNat : Int) - 48) % 256)) = ((acc * 10 + (c.toNat - 48) : Nat) : Int):=by
        rw [IntWalk.wrap64_in ((acc : Int) * 10) (by omega),IntWalk.wrap64_in _ (by omega)]
        omega
      unfold scanN
      rw [if_pos h]
      by_cases hbig : 2147483647 < acc * 10 + (c.toNat - 48)
      · rw [if_pos hbig]
        refine Ev.succ (fun k => ?_) (Ev.const _)
        unfold trestleref02_Number0.l0
        rw [isDigit_f,hb,hw]
        dsimp only [Option.bind_some]
        rw [if_pos (by simp;omega),if_pos (by omega),if_pos (by omega),if_pos (by omega)]
        rfl
      · rw [if_neg hbig]
        have:=ih (i + 1) (acc * 10 + (c.toNat - 48)) (by omega) (by omega)
        rw [scanEnd_succ] at this
        refine Ev.succ (fun k => ?_) this
        conv => lhs;unfold trestleref02_Number0.l0
        rw [isDigit_f,hb,hw]
        dsimp only [Option.bind_some]
        rw [if_pos (by simp;omega),if_pos (by omega),if_pos (by omega),if_neg (by omega),IntWalk.wrap64_in ((i : Int) + 1) (by omega)]
        rfl
    · unfold scanN
      rw [if_neg h]
      refine Ev.succ (fun k => ?_) (Ev.const _)
      unfold trestleref02_Number0.l0
      rw [isDigit_f,hb]
      dsimp only [Option.bind_some]
      rw [if_neg (by simp;omega)]
      rfl
def dig1 : List UInt8 → Bool
  | [] => false
  | d :: _ => decide (48 ≤ d.toNat ∧ d.toNat ≤ 57)
def numAt (l : List UInt8) : Option (Nat × Nat) :=
  match l with
  | [] => none
  | c :: r => if 48 ≤ c.toNat ∧ c.toNat ≤ 57 then (if c.toNat = 48 ∧ dig1 r = true then none else scanN 0 (c :: r)) else none
theorem number0_ev (s : ByteArray) (hs : s.size ≤ 262144) (i : Nat) : Ev (fun k => trestleref02_Number0.f k s (i : Int)) (scanEnd i (numAt (s.data.toList.drop i))):=by
  have jF : i ≤ s.size → Ev (fun k => trestleref02_Number0.j0 k s (i : Int) false) (scanEnd i (scanN 0 (s.data.toList.drop i))):=fun hi => by
    refine Ev.succ (fun k => ?_) (number0_loop s hs (s.size - i) i 0 (by omega) (by omega))
    conv => lhs;unfold trestleref02_Number0.j0
    rfl
  have jT : Ev (fun k => trestleref02_Number0.j0 k s (i : Int) true) (0,0,false):=Ev.succ (fun k => by simp [trestleref02_Number0.j0]) (Ev.const _)
  by_cases hi : s.size ≤ i
  · have e : s.data.toList.drop i = []:=List.drop_eq_nil_of_le (by rw [data_length];omega)
    rw [e]
    refine Ev.congr (fun k => ?_) jT
    unfold trestleref02_Number0.f
    rw [isDigit_f,bt_none hi]
    rfl
  · have hl : i < s.data.toList.length:=by rw [data_length];omega
    obtain ⟨c,hc⟩ : ∃ c,s.data.toList[i]? = some c:=⟨_,List.getElem?_eq_getElem hl⟩
    have hd : s.data.toList.drop i = c :: s.data.toList.drop (i + 1):=by
      rw [List.drop_eq_getElem_cons hl]
      rw [List.getElem?_eq_getElem hl] at hc
      injection hc with hc
      rw [hc]
    have hb:=bt_some hc
    have hn : bt s (((i + 1 : Nat)) : Int) = (match s.data.toList.drop (i + 1) with|[] => 0|d :: _ => (d.toNat : Int)):=by
      by_cases h1 : s.size ≤ i + 1
      · rw [bt_none h1,List.drop_eq_nil_of_le (by rw [data_length];omega)]
      · have hl1 : i + 1 < s.data.toList.length:=by rw [data_length];omega
        rw [bt_some (List.getElem?_eq_getElem hl1),List.drop_eq_getElem_cons hl1]
    have jF:=jF (by omega)
    rw [hd] at jF
    rw [hd]
    unfold numAt
    dsimp only
    by_cases h : 48 ≤ c.toNat ∧ c.toNat ≤ 57
    · rw [if_pos h]
      by_cases h0 : c.toNat = 48
      · have hf : ∀ k,trestleref02_Number0.f k s (i : Int) = trestleref02_Number0.j0 k s (i : Int) (dig1 (s.data.toList.drop (i + 1))):=by
          intro k
          unfold trestleref02_Number0.f
          rw [isDigit_f,hb]
          dsimp only [Option.bind_some]
          rw [if_pos (by simp;omega),if_pos (by omega),if_pos (by omega),if_pos (by omega),IntWalk.wrap64_in ((i : Int) + 1) (by omega)]
          have:=isDigit_f s (i + 1)
          rw [Int.natCast_add] at this
          rw [show ((i : Int) + 1) = (i : Int) + ((1 : Nat) : Int) from rfl,this,← Int.natCast_add,hn]
          dsimp only [Option.bind_some]
          congr 1
          cases s.data.toList.drop (i + 1) with
          | nil => rfl
          | cons d r => dsimp only [dig1];congr 1;exact propext ⟨fun h => ⟨by omega,by omega⟩,fun h => ⟨by omega,by omega⟩⟩
        cases hz : (dig1 (s.data.toList.drop (i + 1))) with
        | true =>
          rw [if_pos ⟨h0,rfl⟩]
          rw [hz] at hf
          exact Ev.congr hf jT
        | false =>
          rw [if_neg (fun h => by cases h.2)]
          rw [hz] at hf
          exact Ev.congr hf jF
      · rw [if_neg (fun h => h0 h.1)]
        refine Ev.congr (fun k => ?_) jF
        unfold trestleref02_Number0.f
        rw [isDigit_f,hb]
        dsimp only [Option.bind_some]
        rw [if_pos (by simp;omega),if_pos (by omega),if_pos (by omega),if_neg (by omega)]
    · rw [if_neg h]
      refine Ev.congr (fun k => ?_) jT
      unfold trestleref02_Number0.f
      rw [isDigit_f,hb]
      dsimp only [Option.bind_some]
      rw [if_neg (by simp;omega)]
end Go.Proofs.YtojepjkpnponoaaDoor.Asc
end
section
namespace Go.Proofs.YtojepjkpnponoaaDoor.Asc
open Go Go.RowKit Go.Proofs.YtojepjkpnponoaaDoorW.PrintWords
set_option linter.unusedVariables false
set_option linter.unusedSimpArgs false
def noneR : Int × Int × ByteArray × Bool:=(0,0,(⟨#[]⟩ : ByteArray),false)
def isKind (c : UInt8) : Bool:=c.toNat == 105 || c.toNat == 108 || c.toNat == 111 || c.toNat == 98 || c.toNat == 99 || c.toNat == 106 || c.toNat == 102
def symR (l : ByteArray) : Int × Int × ByteArray × Bool :=
  match l.data.toList with
  | [] => noneR
  | c :: r => if isKind c = false then noneR else match numAt r with
    | none => noneR
    | some (v,n) => if l.size ≤ n + 2 then noneR else if r[n]? = some 32 then ((c.toNat : Int),(v : Int),l.extract (n + 2) l.size,true) else noneR
theorem scanN_le : ∀ (l : List UInt8) (acc v n : Nat),scanN acc l = some (v,n) → n ≤ l.length
  | [],acc,v,n,h => by simp [scanN] at h;omega
  | c :: r,acc,v,n,h => by
    unfold scanN at h
    split at h
    · split at h
      · cases h
      · obtain ⟨q,hq,e⟩:=Option.map_eq_some_iff.1 h
        have:=scanN_le r _ q.1 q.2 hq
        injection e with e1 e2
        simp only [List.length_cons]
        omega
    · injection h with h
      injection h with h1 h2
      omega
theorem numAt_le {l : List UInt8} {v n : Nat} (h : numAt l = some (v,n)) : n ≤ l.length:=by
  cases l with
  | nil => cases h
  | cons c r =>
    simp only [numAt] at h
    split at h
    · split at h
      · cases h
      · exact scanN_le _ _ _ _ h
    · cases h
theorem sym_j0 (s : ByteArray) (hs : s.size ≤ 262144) (c : UInt8) (r : List UInt8) (hr : s.data.toList = c :: r) :
    Ev (fun k => trestleref04_symbol.j0 k s (c.toNat : Int) false) (match numAt r with
    | none => noneR
    | some (v,n) => if s.size ≤ n + 2 then noneR else if r[n]? = some 32 then ((c.toNat : Int),(v : Int),s.extract (n + 2) s.size,true) else noneR):=by
  have hN:=number0_ev s hs 1
  have hd : s.data.toList.drop 1 = r:=by rw [hr];rfl
  rw [hd] at hN
  have hlen : r.length + 1 = s.size:=by rw [← data_length,hr];rfl
  refine Ev.succ (h:=fun k => (trestleref02_Number0.f k s ((1 : Nat) : Int)).bind fun bt108 => (if bt108.2.2 = true then (if (wrap64 (bt108.2.1 + 1)) ≥ (s.size : Int) then (some (0,0,(⟨#[]⟩ : ByteArray),false)) else (if 0 ≤ bt108.2.1 then (if bt108.2.1 < (s.size : Int) then (if (bt s bt108.2.1) = 32 then (if 0 ≤ (wrap64 (bt108.2.1 + 1)) then (if (wrap64 (bt108.2.1 + 1)) ≤ (s.size : Int) then (some ((c.toNat : Int),bt108.1,s.extract ((wrap64 (bt108.2.1 + 1)) : Int).toNat s.size,true)) else (none)) else (none)) else (some (0,0,(⟨#[]⟩ : ByteArray),false))) else (none)) else (none))) else (some (0,0,(⟨#[]⟩ : ByteArray),false)))) (fun k => by simp [trestleref04_symbol.j0]) (Ev.bind hN ?_)
  cases hq : numAt r with
  | none => exact Ev.const _
  | some q =>
    obtain ⟨v,n⟩:=q
    have hn:=numAt_le hq
    have hw : wrap64 (((1 + n : Nat) : Int) + 1) = ((n + 2 : Nat) : Int):=by rw [IntWalk.wrap64_in _ (by omega)];omega
    refine Ev.congr (fun k => ?_) (Ev.const _)
    show (if true = true then (if (wrap64 (((1 + n : Nat) : Int) + 1)) ≥ (s.size : Int) then (some (0,0,(⟨#[]⟩ : ByteArray),false)) else (if 0 ≤ ((1 + n : Nat) : Int) then (if ((1 + n : Nat) : Int) < (s.size : Int) then (if (bt s ((1 + n : Nat) : Int)) = 32 then (if 0 ≤ (wrap64 (((1 + n : Nat) : Int) + 1)) then (if (wrap64 (((1 + n : Nat) : Int) + 1)) ≤ (s.size : Int) then (some ((c.toNat : Int),(v : Int),s.extract ((wrap64 (((1 + n : Nat) : Int) + 1)) : Int).toNat s.size,true)) else (none)) else (none)) else (some (0,0,(⟨#[]⟩ : ByteArray),false))) else (none)) else (none))) else (some (0,0,(⟨#[]⟩ : ByteArray),false))) = some (if s.size ≤ n + 2 then noneR else if r[n]? = some 32 then ((c.toNat : Int),(v : Int),s.extract (n + 2) s.size,true) else noneR)
    rw [if_pos rfl,hw]
    by_cases h1 : s.size ≤ n + 2
    · rw [if_pos (by omega),if_pos h1]
      rfl
    · rw [if_neg (by omega),if_neg h1,if_pos (by omega),if_pos (by omega)]
      have ht : bt s ((1 + n : Nat) : Int) = 32 ↔ r[n]? = some 32:=by
        have:=bt_ten (s:=s) (i:=1 + n) (c:=32) (by omega)
        rw [hr,Nat.add_comm 1 n,List.getElem?_cons_succ] at this
        rw [Nat.add_comm 1 n]
        exact this
      by_cases h2 : r[n]? = some 32
      · rw [if_pos (ht.2 h2),if_pos h2,if_pos (by omega),if_pos (by omega)]
        rfl
      · rw [if_neg (fun h => h2 (ht.1 h)),if_neg h2]
        rfl
theorem symR_ev (s : ByteArray) (hs : s.size ≤ 262144) : Ev (fun k => trestleref04_symbol.f k s) (symR s):=by
  unfold symR
  cases hr : s.data.toList with
  | nil =>
    refine Ev.congr (fun k => ?_) (Ev.const _)
    unfold trestleref04_symbol.f
    rw [Lib.toList_data,hr,if_pos rfl]
    rfl
  | cons c r =>
    have hlen : r.length + 1 = s.size:=by rw [← data_length,hr];rfl
    have hb : bt s 0 = (c.toNat : Int):=bt_some (i:=0) (by rw [hr];rfl)
    have hj:=sym_j0 s hs c r hr
    have jT : ∀ x,Ev (fun k => trestleref04_symbol.j0 k s x true) noneR:=fun x => Ev.succ (fun k => by simp [trestleref04_symbol.j0,noneR]) (Ev.const noneR)
    have hf : ∀ k,trestleref04_symbol.f k s = trestleref04_symbol.j0 k s (c.toNat : Int) (!isKind c):=by
      intro k
      unfold trestleref04_symbol.f
      rw [Lib.toList_data,hr,if_neg (by simp),if_pos (by omega),hb]
      by_cases h1 : c.toNat = 105
      · rw [if_pos (by omega),show isKind c = true by simp [isKind,h1]];rfl
      rw [if_neg (by omega)]
      by_cases h2 : c.toNat = 108
      · rw [if_pos (by omega),show isKind c = true by simp [isKind,h2]];rfl
      rw [if_neg (by omega)]
      by_cases h3 : c.toNat = 111
      · rw [if_pos (by omega),show isKind c = true by simp [isKind,h3]];rfl
      rw [if_neg (by omega)]
      by_cases h4 : c.toNat = 98
      · rw [if_pos (by omega),show isKind c = true by simp [isKind,h4]];rfl
      rw [if_neg (by omega)]
      by_cases h5 : c.toNat = 99
      · rw [if_pos (by omega),show isKind c = true by simp [isKind,h5]];rfl
      rw [if_neg (by omega)]
      by_cases h6 : c.toNat = 106
      · rw [if_pos (by omega),show isKind c = true by simp [isKind,h6]];rfl
      rw [if_neg (by omega)]
      by_cases h7 : c.toNat = 102
      · rw [show isKind c = true by simp [isKind,h7],h7];rfl
      · have : ((c.toNat : Int) != 102) = true:=by simp;omega
        rw [this,show isKind c = false by simp [isKind,h1,h2,h3,h4,h5,h6,h7]]
        rfl
    dsimp only
    cases hk : isKind c with
    | false =>
      rw [hk] at hf
      rw [if_pos rfl]
      exact Ev.congr hf (jT _)
    | true =>
      rw [hk] at hf
      rw [if_neg (by simp)]
      exact Ev.congr hf hj
theorem scan_parse : ∀ (M : List UInt8) (acc : Nat) (N : List UInt8),acc ≤ 2147483647 →
    (∃ u,Lib.parseUintM 2147483647 acc M = .ok u ∧ scanN acc (M ++ 32 :: N) = some (u,M.length) ∧ ∀ c ∈ M,48 ≤ c.toNat ∧ c.toNat ≤ 57) ∨
    ((∀ u,Lib.parseUintM 2147483647 acc M ≠ .ok u) ∧ (scanN acc (M ++ 32 :: N) = none ∨ ∃ v j,scanN acc (M ++ 32 :: N) = some (v,j) ∧ j < M.length))
  | [],acc,N,ha => Or.inl ⟨acc,rfl,by simp [scanN],fun c hc => by cases hc⟩
  | c :: r,acc,N,ha => by
    rw [List.cons_append]
    unfold Lib.parseUintM scanN
    by_cases h : 48 ≤ c.toNat ∧ c.toNat ≤ 57
    · rw [if_pos h,if_pos h,if_neg (by omega)]
      by_cases hb : 2147483647 < acc * 10 + (c.toNat - 48)
      · rw [if_pos hb,if_pos hb]
        exact Or.inr ⟨(fun u hu => by cases hu),Or.inl rfl⟩
      · rw [if_neg hb,if_neg hb]
        rcases scan_parse r (acc * 10 + (c.toNat - 48)) N (by omega) with ⟨u,h1,h2,h3⟩|⟨h1,h2⟩
        · refine Or.inl ⟨u,h1,by rw [h2];rfl,fun x hx => ?_⟩
          rcases List.mem_cons.1 hx with rfl|hx
          · exact h
          · exact h3 x hx
        · refine Or.inr ⟨h1,?_⟩
          rcases h2 with h2|⟨v,j,h2,hj⟩
          · exact Or.inl (by rw [h2];rfl)
          · exact Or.inr ⟨v,j + 1,by rw [h2];rfl,by simp only [List.length_cons];omega⟩
    · rw [if_neg h,if_neg h]
      exact Or.inr ⟨(fun u hu => by cases hu),Or.inr ⟨acc,0,rfl,Nat.succ_pos _⟩⟩
theorem contains_one (c : UInt8) : Lib.contains kindsS.data.toList [c] = isKind c:=by
  revert c
  have : ∀ n : Fin 256,Lib.contains kindsS.data.toList [UInt8.ofNat n.val] = isKind (UInt8.ofNat n.val):=by decide +kernel
  intro c
  have h:=this ⟨c.toNat,c.toNat_lt⟩
  simpa using h
theorem sF_none {l : ByteArray} (h : Lib.indexByte l.data.toList 32 < 0) : (symF l).2 = false:=by
  unfold symF cutS Lib.cut
  rw [Lib.index_one,if_neg (by omega)]
  unfold symOf
  rw [if_pos rfl]
theorem sF_some {l : ByteArray} {o : Nat} (h : Lib.indexByte l.data.toList 32 = o) : symF l = symOf (⟨(l.data.toList.take o).toArray⟩,⟨(l.data.toList.drop (o + 1)).toArray⟩,true):=by
  unfold symF cutS Lib.cut
  rw [Lib.index_one,h,if_pos (by omega)]
  rfl
theorem symR_false {l : ByteArray} {c : UInt8} {r : List UInt8} (hr : l.data.toList = c :: r) (h : isKind c = false ∨ ∀ v n,numAt r = some (v,n) → l.size ≤ n + 2 ∨ r[n]? ≠ some 32) : (symR l).2.2.2 = false:=by
  unfold symR
  rw [hr]
  dsimp only
  by_cases hk : isKind c = false
  · rw [if_pos hk];rfl
  · rw [if_neg hk]
    cases hq : numAt r with
    | none => rfl
    | some q =>
      obtain ⟨v,n⟩:=q
      dsimp only
      rcases h with h|h
      · exact absurd h hk
      · rcases h v n hq with h|h
        · rw [if_pos h];rfl
        · rw [if_neg h]
          split <;> rfl
theorem symR_true {l : ByteArray} {c : UInt8} {r : List UInt8} {v n : Nat} (hr : l.data.toList = c :: r) (hk : isKind c = true) (hq : numAt r = some (v,n)) (h1 : n + 2 < l.size) (h2 : r[n]? = some 32) : symR l = ((c.toNat : Int),(v : Int),l.extract (n + 2) l.size,true):=by
  unfold symR
  rw [hr]
  dsimp only
  rw [if_neg (by rw [hk];exact Bool.noConfusion),hq]
  dsimp only
  rw [if_neg (by omega),if_pos h2]
theorem numA_no {M : List UInt8} (h : ∀ u,Lib.parseUintM 2147483647 0 M ≠ .ok u) : (numA ⟨M.toArray⟩).2 = false:=by
  unfold numA
  have e : Lib.parseUintB 31 M = if M = [] then Lib.parseUintB 31 [] else Lib.parseUintM 2147483647 0 M:=rfl
  have e' : (⟨M.toArray⟩ : ByteArray).data.toList = M:=rfl
  rw [e',e]
  by_cases hM : M = []
  · rw [if_pos hM];rfl
  · rw [if_neg hM]
    cases hp : Lib.parseUintM 2147483647 0 M with
    | ok u => exact absurd hp (h u)
    | _ => rfl
theorem numA_yes {d : UInt8} {M : List UInt8} {u : Nat} (h : Lib.parseUintM 2147483647 0 (d :: M) = .ok u) (hd : 48 ≤ d.toNat) : numA ⟨(d :: M).toArray⟩ = if M ≠ [] ∧ d.toNat = 48 then (0,false) else ((u : Int),true):=by
  unfold numA
  have e : Lib.parseUintB 31 (d :: M) = Lib.parseUintM 2147483647 0 (d :: M):=rfl
  have e' : (⟨(d :: M).toArray⟩ : ByteArray).data.toList = d :: M:=rfl
  have eb : bt ⟨(d :: M).toArray⟩ 0 = (d.toNat : Int):=bt_some (s:=⟨(d :: M).toArray⟩) (i:=0) rfl
  have es : (⟨(d :: M).toArray⟩ : ByteArray).size = M.length + 1:=by rw [← data_length];rfl
  rw [e',e,h,eb,es]
  dsimp only
  cases M with
  | nil => rw [if_neg (by simp;omega),if_neg (by simp)]
  | cons x M =>
    by_cases h8 : d.toNat = 48
    · rw [if_pos (by simp;omega),if_pos ⟨by simp,h8⟩]
    · rw [if_neg (by simp;omega),if_neg (fun h => h8 h.2)]
theorem size_mk (M : List UInt8) : (⟨M.toArray⟩ : ByteArray).size = M.length:=by rw [← data_length]
theorem ex_mk (M : List UInt8) (a b : Nat) : (⟨M.toArray⟩ : ByteArray).extract a b = ⟨((M.drop a).take (b - a)).toArray⟩:=by
  have h:=Stim.extract_list ⟨M.toArray⟩ a b
  have h2:=Stim.bytesA_data ((⟨M.toArray⟩ : ByteArray).extract a b)
  rw [h] at h2
  exact h2.symm
theorem sym_eq (l : ByteArray) : (symF l).2 = (symR l).2.2.2 ∧ ((symR l).2.2.2 = true → (symF l).1 = ⟨(symR l).1,(symR l).2.1,(symR l).2.2.1⟩):=by
  have no : (symF l).2 = false → (symR l).2.2.2 = false → (symF l).2 = (symR l).2.2.2 ∧ ((symR l).2.2.2 = true → (symF l).1 = ⟨(symR l).1,(symR l).2.1,(symR l).2.2.1⟩):=fun h1 h2 => ⟨h1.trans h2.symm,fun h => by rw [h2] at h;cases h⟩
  have hge:=Lib.indexByte_ge l.data.toList 32
  by_cases hneg : Lib.indexByte l.data.toList 32 < 0
  · have hn:=Lib.indexByte_none (show Lib.indexByte l.data.toList 32 = -1 by omega)
    refine no (sF_none hneg) ?_
    cases hr : l.data.toList with
    | nil => unfold symR;rw [hr];rfl
    | cons c r =>
      refine symR_false hr (Or.inr fun v n _ => Or.inr fun h => hn (n + 1) ?_)
      rw [hr,List.getElem?_cons_succ,h]
  · obtain ⟨o,ho⟩ : ∃ o : Nat,Lib.indexByte l.data.toList 32 = o:=⟨_,(Int.toNat_of_nonneg (by omega)).symm⟩
    have hS:=sF_some ho
    obtain ⟨h32,hno⟩:=Lib.indexByte_some ho
    cases hr : l.data.toList with
    | nil => rw [hr] at h32;simp at h32
    | cons c r =>
      have hsz : l.size = r.length + 1:=by rw [← data_length,hr];rfl
      rw [hr] at hS h32 hno
      cases o with
      | zero =>
        have hc : c = 32:=by simpa using h32
        refine no ?_ (symR_false hr (Or.inl (by rw [hc];rfl)))
        rw [hS]
        unfold symOf
        rw [if_neg (by simp)]
        split
        · rfl
        · rw [if_pos (by rw [size_mk];simp)]
      | succ o =>
        rw [List.getElem?_cons_succ] at h32
        obtain ⟨hor,hoe⟩:=List.getElem?_eq_some_iff.1 h32
        obtain ⟨M,hM⟩ : ∃ M,r.take o = M:=⟨_,rfl⟩
        obtain ⟨N,hN⟩ : ∃ N,r.drop (o + 1) = N:=⟨_,rfl⟩
        have hMl : M.length = o:=by rw [← hM,List.length_take];omega
        have hrr : r = M ++ 32 :: N:=by
          rw [← hM,← hN,← hoe,← List.drop_eq_getElem_cons hor,List.take_append_drop]
        have hM32 : ∀ j,j < M.length → r[j]? ≠ some 32:=fun j hj => by
          have:=hno (j + 1) (by omega)
          rwa [List.getElem?_cons_succ] at this
        have hlen : r.length = M.length + 1 + N.length:=by rw [hrr];simp;omega
        rw [List.take_succ_cons,List.drop_succ_cons,hM,hN] at hS
        rw [hS]
        unfold symOf
        rw [hS] at no
        unfold symOf at no
        rw [if_neg (by simp)] at no ⊢
        by_cases hN0 : N = []
        · rw [if_pos (by rw [size_mk,hN0];rfl)] at no ⊢
          refine no rfl (symR_false hr (Or.inr fun v n _ => ?_))
          by_cases hn : n < M.length
          · exact Or.inr (hM32 n hn)
          · left;rw [hsz,hlen,hN0];simp;omega
        have hNl : 0 < N.length:=List.length_pos_iff.2 hN0
        rw [if_neg (by rw [size_mk];omega)] at no ⊢
        cases M with
        | nil =>
          rw [if_pos (by rw [size_mk];simp)] at no ⊢
          refine no rfl (symR_false hr (Or.inr fun v n hq => ?_))
          rw [hrr] at hq
          cases hq
        | cons d M =>
          have e1 : ((⟨(c :: d :: M).toArray⟩ : ByteArray).extract 0 1).data.toList = [c]:=by rw [ex_mk];rfl
          have e2 : (⟨(c :: d :: M).toArray⟩ : ByteArray).extract 1 (⟨(c :: d :: M).toArray⟩ : ByteArray).size = ⟨(d :: M).toArray⟩:=by
            rw [ex_mk,size_mk]
            congr 2
            exact List.take_of_length_le (by simp)
          have e3 : bt ⟨(c :: d :: M).toArray⟩ 0 = (c.toNat : Int):=bt_some (s:=⟨(c :: d :: M).toArray⟩) (i:=0) rfl
          rw [if_neg (by rw [size_mk];simp)] at no ⊢
          dsimp only at no ⊢
          rw [e1,contains_one,e2,e3] at no ⊢
          by_cases hk : isKind c = false
          · rw [if_pos hk] at no ⊢
            exact no rfl (symR_false hr (Or.inl hk))
          rw [if_neg hk] at no ⊢
          have hk : isKind c = true:=by simpa using hk
          rcases scan_parse (d :: M) 0 N (by omega) with ⟨u,h1,h2,h3⟩|⟨h1,h2⟩
          · have hd:=h3 d (List.mem_cons_self ..)
            have hdig : dig1 (M ++ 32 :: N) = decide (M ≠ []):=by
              cases M with
              | nil => rfl
              | cons x M =>
                have:=h3 x (List.mem_cons_of_mem _ (List.mem_cons_self ..))
                simp [dig1,this]
            have hnA : numAt r = if M ≠ [] ∧ d.toNat = 48 then none else some (u,(d :: M).length):=by
              rw [hrr,List.cons_append]
              unfold numAt
              dsimp only
              rw [if_pos hd,hdig]
              rw [List.cons_append] at h2
              by_cases hz : M ≠ [] ∧ d.toNat = 48
              · rw [if_pos ⟨hz.2,decide_eq_true hz.1⟩,if_pos hz]
              · rw [if_neg (fun h => hz ⟨of_decide_eq_true h.2,h.1⟩),if_neg hz,h2]
            rw [numA_yes h1 hd.1] at no ⊢
            by_cases hz : M ≠ [] ∧ d.toNat = 48
            · rw [if_pos hz] at no hnA ⊢
              exact no rfl (symR_false hr (Or.inr fun v n hq => by rw [hnA] at hq;cases hq))
            · rw [if_neg hz] at hnA ⊢
              have hT:=symR_true hr hk hnA (by rw [hsz,hlen];omega) (by rw [hrr];simp)
              rw [hT]
              refine ⟨rfl,fun _ => ?_⟩
              dsimp only
              congr 1
              have : l = ⟨(c :: r).toArray⟩:=by rw [← hr]
              rw [this,ex_mk,hrr,size_mk]
              congr 2
              rw [List.take_of_length_le (by simp;omega)]
              simp
          · rw [numA_no h1] at no ⊢
            refine no rfl (symR_false hr (Or.inr fun v n hq => ?_))
            rw [hrr,List.cons_append] at hq
            rw [List.cons_append] at h2
            unfold numAt at hq
            dsimp only at hq
            split at hq
            · split at hq
              · cases hq
              · rcases h2 with h2|⟨v',j,h2,hj⟩
                · rw [h2] at hq;cases hq
                · rw [h2] at hq
                  injection hq with hq
                  injection hq with _ hq
                  subst hq
                  exact Or.inr (hM32 _ hj)
            · cases hq
end Go.Proofs.YtojepjkpnponoaaDoor.Asc
end
