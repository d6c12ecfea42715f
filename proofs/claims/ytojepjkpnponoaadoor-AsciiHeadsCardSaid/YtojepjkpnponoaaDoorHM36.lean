import Derived.Test.YtojepjkpnponoaaDoorHM21
import Derived.Test.YtojepjkpnponoaaDoorHM18
import Derived.Test.YtojepjkpnponoaaDoorHM32
import Derived.Test.YtojepjkpnponoaaDoorHAsc7
import Derived.Test.YtojepjkpnponoaaDoorHAsc8
import Derived.Test.YtojepjkpnponoaaDoorHAsc1
section
namespace Go.Proofs.YtojepjkpnponoaaDoor.Asc
open Go Go.RowKit Go.Proofs.YtojepjkpnponoaaDoorW.PrintWords
set_option linter.unusedVariables false
set_option linter.unusedSimpArgs false
def badH : ByteArray × List Int × Int × Bool:=((⟨#[]⟩ : ByteArray),[],0,false)
def aagL : List UInt8:=[97,97,103,32]
def aigL : List UInt8:=[97,105,103,32]
def tailH (l : ByteArray) (q : Int) (n : List Int × Bool) : ByteArray × List Int × Int × Bool :=
  if n.2 = false ∨ n.1.length < 5 ∨ 9 < n.1.length then badH else (l.extract 0 3,nine n.1,q,true)
def headerR (s : ByteArray) : ByteArray × List Int × Int × Bool :=
  match lineF s 0 with
  | none => badH
  | some (l,q) => if (l.data.toList.take 4 = aagL ∨ l.data.toList.take 4 = aigL) then tailH l (q : Int) (numsR (l.extract 4 l.size)) else badH
theorem nine_step {ns : List Int} (h : ns.length < 9) : nine (ns ++ [0]) = nine ns:=by
  unfold nine
  rw [List.length_append,List.append_assoc]
  congr 1
  have e : 9 - ns.length = (9 - (ns.length + 1)) + 1:=by omega
  rw [e,List.replicate_succ]
  rfl
theorem pad_loop (l : ByteArray) (q : Int) (h3 : 3 ≤ l.size) (m : Nat) : ∀ ns : List Int,ns.length + m = 9 → Ev (fun k => trestleref04_header.l0 k l q ns) (l.extract 0 3,nine ns,q,true):=by
  induction m with
  | zero =>
    intro ns hn
    refine Ev.succ (fun k => ?_) (Ev.const _)
    unfold trestleref04_header.l0
    rw [if_neg (by omega),if_pos (by omega),if_pos (by omega)]
    have : nine ns = ns:=by unfold nine;rw [show 9 - ns.length = 0 by omega];simp
    rw [this]
  | succ m ih =>
    intro ns hn
    have hI:=ih (ns ++ [0]) (by rw [List.length_append];simp;omega)
    rw [nine_step (by omega)] at hI
    refine Ev.succ (fun k => ?_) hI
    conv => lhs;unfold trestleref04_header.l0
    rw [if_pos (by omega),if_pos (by omega)]
theorem j1_bad (l : ByteArray) (q : Int) (ns : List Int) : Ev (fun k => trestleref04_header.j1 k l q ns true) badH:=by
  refine Ev.succ (fun k => ?_) (Ev.const _)
  unfold trestleref04_header.j1
  dsimp only
  rw [if_pos rfl]
  rfl
theorem j0_bad (l : ByteArray) (q : Int) : Ev (fun k => trestleref04_header.j0 k l q true) badH:=by
  refine Ev.succ (fun k => ?_) (Ev.const _)
  unfold trestleref04_header.j0
  dsimp only
  rw [if_pos rfl]
  rfl
theorem j0_ok (l : ByteArray) (q : Int) (hs : l.size ≤ 262144) (h4 : 4 ≤ l.size) : Ev (fun k => trestleref04_header.j0 k l q false) (tailH l q (numsR (l.extract 4 l.size))):=by
  have hN:=numbers_ev (l.extract 4 l.size) (by rw [ByteArray.size_extract];omega)
  refine Ev.succ (h:=fun k => (trestleref04_Numbers.f k (l.extract 4 l.size)).bind fun bt116 => (if bt116.2 = true then (if (bt116.1.length : Int) < 5 then (trestleref04_header.j1 k l q bt116.1 true) else (trestleref04_header.j1 k l q bt116.1 (decide ((bt116.1.length : Int) > 9)))) else (trestleref04_header.j1 k l q bt116.1 true))) (fun k => ?_) (Ev.bind hN ?_)
  · conv => lhs;unfold trestleref04_header.j0
    dsimp only
    rw [if_neg Bool.noConfusion,if_pos (by omega)]
  · obtain ⟨ns,ok,hn⟩ : ∃ ns ok,numsR (l.extract 4 l.size) = (ns,ok):=⟨_,_,rfl⟩
    rw [hn]
    unfold tailH
    cases ok with
    | false =>
      rw [if_pos (Or.inl rfl)]
      refine Ev.congr (fun k => ?_) (j1_bad l q ns)
      show (if false = true then _ else _) = _
      rw [if_neg Bool.noConfusion]
    | true =>
      by_cases h5 : ns.length < 5
      · rw [if_pos (Or.inr (Or.inl h5))]
        refine Ev.congr (fun k => ?_) (j1_bad l q ns)
        show (if true = true then (if (ns.length : Int) < 5 then _ else _) else _) = _
        rw [if_pos rfl,if_pos (by omega)]
      · by_cases h9 : 9 < ns.length
        · rw [if_pos (Or.inr (Or.inr h9))]
          refine Ev.congr (fun k => ?_) (j1_bad l q ns)
          show (if true = true then (if (ns.length : Int) < 5 then _ else (trestleref04_header.j1 k l q ns (decide ((ns.length : Int) > 9)))) else _) = _
          rw [if_pos rfl,if_neg (by omega),decide_eq_true (by omega)]
        · rw [if_neg (fun h => by rcases h with h|h|h;cases h;exact h5 h;exact h9 h)]
          refine Ev.congr (h:=fun k => trestleref04_header.j1 k l q ns false) (fun k => ?_) ?_
          · show (if true = true then (if (ns.length : Int) < 5 then _ else (trestleref04_header.j1 k l q ns (decide ((ns.length : Int) > 9)))) else _) = _
            rw [if_pos rfl,if_neg (by omega),decide_eq_false (by omega)]
          · refine Ev.succ (fun k => ?_) (pad_loop l q (by omega) (9 - ns.length) ns (by omega))
            conv => lhs;unfold trestleref04_header.j1
            dsimp only
            rw [if_neg Bool.noConfusion]
theorem take4 (l : ByteArray) : (l.extract 0 4).toList = l.data.toList.take 4:=by
  rw [Lib.toList_data,Stim.extract_list,List.drop_zero]
theorem header_ev (s : ByteArray) (hs : s.size ≤ 262144) : Ev (fun k => trestleref04_header.f k s) (headerR s):=by
  have hL:=line_ev s hs 0 (Nat.zero_le _)
  unfold headerR
  refine Ev.congr (h:=fun k => (trestleref04_Line.f k s ((0 : Nat) : Int)).bind fun bt113 => (if bt113.2.2 = true then (if (bt113.1.size : Int) < 4 then (trestleref04_header.j0 k bt113.1 bt113.2.1 true) else (if 0 ≤ 4 then (if 4 ≤ (bt113.1.size : Int) then (if (bt113.1.extract 0 4).toList = ([97,97,103,32] : List UInt8) then (trestleref04_header.j0 k bt113.1 bt113.2.1 false) else (trestleref04_header.j0 k bt113.1 bt113.2.1 ((bt113.1.extract 0 4).toList != ([97,105,103,32] : List UInt8)))) else (none)) else (none))) else (trestleref04_header.j0 k bt113.1 bt113.2.1 true))) (fun k => by unfold trestleref04_header.f;rfl) (Ev.bind hL ?_)
  unfold lineR
  cases hq : lineF s 0 with
  | none => exact Ev.congr (fun k => by show (if false = true then _ else _) = _;rw [if_neg Bool.noConfusion]) (j0_bad _ _)
  | some y =>
    obtain ⟨l,q⟩:=y
    obtain ⟨b1,b2,b3⟩:=lineF_bounds hq
    dsimp only
    have hlen : l.data.toList.length = l.size:=data_length l
    by_cases h4 : l.size < 4
    · have hno : ¬ (l.data.toList.take 4 = aagL ∨ l.data.toList.take 4 = aigL):=by
        intro h
        rcases h with h|h
        · have:=congrArg List.length h
          rw [List.length_take] at this
          simp [aagL] at this
          omega
        · have:=congrArg List.length h
          rw [List.length_take] at this
          simp [aigL] at this
          omega
      rw [if_neg hno]
      refine Ev.congr (fun k => ?_) (j0_bad l q)
      rw [if_pos rfl,if_pos (by omega)]
    · by_cases ha : l.data.toList.take 4 = aagL
      · rw [if_pos (Or.inl ha)]
        refine Ev.congr (fun k => ?_) (j0_ok l q (by omega) (by omega))
        rw [if_pos rfl,if_neg (by omega),if_pos (by omega),if_pos (by omega),if_pos (by rw [take4];exact ha)]
      · by_cases hi : l.data.toList.take 4 = aigL
        · rw [if_pos (Or.inr hi)]
          refine Ev.congr (fun k => ?_) (j0_ok l q (by omega) (by omega))
          rw [if_pos rfl,if_neg (by omega),if_pos (by omega),if_pos (by omega),if_neg (by rw [take4];exact ha)]
          rw [take4,hi]
          rfl
        · rw [if_neg (fun h => by rcases h with h|h;exact ha h;exact hi h)]
          refine Ev.congr (fun k => ?_) (j0_bad l q)
          rw [if_pos rfl,if_neg (by omega),if_pos (by omega),if_pos (by omega),if_neg (by rw [take4];exact ha)]
          have : (l.data.toList.take 4 != ([97,105,103,32] : List UInt8)) = true:=bne_iff_ne.2 hi
          rw [take4,this]
def headEndR (w : ByteArray) (n : List Int) (q : Int) (b : Bool) : ByteArray × List Int × Int × Int × Int :=
  if b = true then ((⟨#[]⟩ : ByteArray),[],0,0,41) else if n.getD 0 0 < n.getD 1 0 + n.getD 2 0 + n.getD 4 0 then ((⟨#[]⟩ : ByteArray),[],0,0,41) else (w,n,q,0,0)
theorem head_loop (w : ByteArray) (n : List Int) (q : Int) (hn : n.length = 9) (hr : ∀ x ∈ n,0 ≤ x ∧ x ≤ 2147483647) (m : Nat) : ∀ (i : Nat) (b : Bool),i + m = 9 →
    Ev (fun k => trestleref04_Head.l0 k w n q b (i : Int)) (headEndR w n q (b || (n.drop i).any (fun x => decide (16384 < x)))):=by
  have hg : ∀ i : Nat,i < 9 → 0 ≤ n.getD i 0 ∧ n.getD i 0 ≤ 2147483647:=fun i hi => by
    have e : n.getD i 0 = n[i]'(by omega):=by simp [List.getD_eq_getElem?_getD,List.getElem?_eq_getElem (show i < n.length by omega)]
    rw [e]
    exact hr _ (List.getElem_mem _)
  induction m with
  | zero =>
    intro i b hi
    have e : n.drop i = []:=List.drop_eq_nil_of_le (by omega)
    rw [e]
    refine Ev.succ (fun k => ?_) (Ev.const _)
    unfold trestleref04_Head.l0
    rw [if_neg (by omega)]
    have h0:=hg 0 (by omega)
    have h1:=hg 1 (by omega)
    have h2:=hg 2 (by omega)
    have h4:=hg 4 (by omega)
    have e0 : rd n 0 = n.getD 0 0:=rfl
    have e1 : rd n 1 = n.getD 1 0:=rfl
    have e2 : rd n 2 = n.getD 2 0:=rfl
    have e4 : rd n 4 = n.getD 4 0:=rfl
    unfold headEndR
    cases b with
    | true => rfl
    | false =>
      rw [if_neg Bool.noConfusion,if_pos (by omega),if_pos (by omega),if_pos (by omega),if_pos (by omega),e0,e1,e2,e4,IntWalk.wrap64_in (n.getD 1 0 + n.getD 2 0) (by omega),IntWalk.wrap64_in _ (by omega)]
      rw [if_neg (show ¬ (false || ([] : List Int).any fun x => decide (16384 < x)) = true by decide)]
      by_cases hb : n.getD 0 0 < n.getD 1 0 + n.getD 2 0 + n.getD 4 0
      · rw [if_pos (by omega),if_pos hb]
        rfl
      · rw [if_neg (by omega),if_neg hb]
  | succ m ih =>
    intro i b hi
    have e : n.drop i = n[i]'(by omega) :: n.drop (i + 1):=List.drop_eq_getElem_cons (by omega)
    have eg : rd n (i : Int) = n[i]'(by omega):=by
      show n.getD ((i : Int)).toNat 0 = _
      rw [Int.toNat_natCast]
      simp [List.getD_eq_getElem?_getD,List.getElem?_eq_getElem (show i < n.length by omega)]
    have ew : wrap64 ((i : Int) + 1) = ((i + 1 : Nat) : Int):=by rw [IntWalk.wrap64_in _ (by omega)];rfl
    rw [e,List.any_cons]
    cases b with
    | true =>
      have hI:=ih (i + 1) true (by omega)
      rw [Bool.true_or] at hI ⊢
      refine Ev.succ (fun k => ?_) hI
      conv => lhs;unfold trestleref04_Head.l0
      rw [if_pos (by omega),if_pos rfl,ew]
    | false =>
      have hI:=ih (i + 1) (decide (16384 < n[i]'(by omega))) (by omega)
      rw [Bool.false_or]
      refine Ev.succ (fun k => ?_) hI
      conv => lhs;unfold trestleref04_Head.l0
      rw [if_pos (by omega),if_neg Bool.noConfusion,if_pos (by omega),if_pos (by omega),ew,eg]
def headR (s : ByteArray) : ByteArray × List Int × Int × Int × Int :=
  if 262144 < s.size then ((⟨#[]⟩ : ByteArray),[],0,0,2) else
    if (headerR s).2.2.2 = false then ((⟨#[]⟩ : ByteArray),[],0,0,40) else
      headEndR (headerR s).1 (headerR s).2.1 (headerR s).2.2.1 (decide (16384 < (headerR s).2.1.getD 0 0) || ((headerR s).2.1.drop 1).any (fun x => decide (16384 < x)))
theorem headerR_ok (s : ByteArray) : (headerR s).2.2.2 = true → (headerR s).2.1.length = 9 ∧ ∀ x ∈ (headerR s).2.1,0 ≤ x ∧ x ≤ 2147483647:=by
  unfold headerR
  cases hq : lineF s 0 with
  | none => intro h;cases h
  | some y =>
    obtain ⟨l,q⟩:=y
    dsimp only
    split
    · unfold tailH
      split
      · intro h;cases h
      · rename_i h
        intro _
        exact ⟨nine_len (by omega),nine_range (numsR_range (s:=l.extract 4 l.size) (b:=(numsR (l.extract 4 l.size)).2) rfl)⟩
    · intro h;cases h
theorem refHead_ev (s : ByteArray) : Ev (fun k => trestleref04_Head.f k s) (headR s):=by
  unfold headR
  by_cases hs : 262144 < s.size
  · rw [if_pos hs]
    refine Ev.congr (fun k => ?_) (Ev.const _)
    unfold trestleref04_Head.f
    rw [if_pos (by omega)]
    rfl
  · rw [if_neg hs]
    have hH:=header_ev s (by omega)
    have hok:=headerR_ok s
    refine Ev.congr (h:=fun k => (trestleref04_header.f k s).bind fun bt126 => (if bt126.2.2.2 = true then (if 0 < (bt126.2.1.length : Int) then (trestleref04_Head.l0 k bt126.1 bt126.2.1 bt126.2.2.1 (decide ((rd bt126.2.1 0) > 16384)) 1) else (none)) else ((trestleref04_fault.f 0 40).bind fun bt132 => (some ((⟨#[]⟩ : ByteArray),([] : List Int),0,bt132.1,bt132.2))))) (fun k => by unfold trestleref04_Head.f;rw [if_neg (by omega)]) (Ev.bind hH ?_)
    obtain ⟨w,n,q,ok,hr⟩ : ∃ w n q ok,headerR s = (w,n,q,ok):=⟨_,_,_,_,rfl⟩
    rw [hr] at hok ⊢
    cases ok with
    | false => exact Ev.const _
    | true =>
      obtain ⟨hn,hx⟩:=hok rfl
      dsimp only at hn hx ⊢
      rw [if_neg Bool.noConfusion]
      refine Ev.congr (fun k => ?_) (head_loop w n q hn hx 8 1 _ rfl)
      rw [if_pos rfl,if_pos (by omega)]
      rfl
end Go.Proofs.YtojepjkpnponoaaDoor.Asc
end
section
namespace Go.Proofs.YtojepjkpnponoaaDoor.Asc
open Go Go.RowKit Go.Proofs.YtojepjkpnponoaaDoorW.PrintWords
set_option linter.unusedVariables false
set_option linter.unusedSimpArgs false
theorem cut_neg {l : ByteArray} {c : UInt8} (h : Lib.indexByte l.data.toList c < 0) : (cutS l c).2.2 = false ∧ (cutS l c).2.1 = ⟨#[]⟩:=by
  unfold cutS Lib.cut
  rw [Lib.index_one,if_neg (by omega)]
  exact ⟨rfl,rfl⟩
theorem cut_pos {l : ByteArray} {c : UInt8} {i : Nat} (h : Lib.indexByte l.data.toList c = i) : cutS l c = (⟨(l.data.toList.take i).toArray⟩,⟨(l.data.toList.drop (i + 1)).toArray⟩,true):=by
  unfold cutS Lib.cut
  rw [Lib.index_one,h,if_pos (by omega)]
  simp
theorem index_word {a b c : UInt8} {r : List UInt8} (ha : a ≠ 32) (hb : b ≠ 32) (hc : c ≠ 32) : Lib.indexByte (a :: b :: c :: 32 :: r) 32 = 3:=by
  simp [Lib.indexByte,ha,hb,hc]
theorem line_word {l : ByteArray} {a b c : UInt8} (ha : a ≠ 32) (hb : b ≠ 32) (hc : c ≠ 32) (h : l.data.toList.take 4 = [a,b,c,32]) : cutS l 32 = (⟨#[a,b,c]⟩,l.extract 4 l.size,true) ∧ l.extract 0 3 = ⟨#[a,b,c]⟩:=by
  have e : l.data.toList = a :: b :: c :: 32 :: l.data.toList.drop 4:=by
    conv => lhs;rw [← List.take_append_drop 4 l.data.toList,h]
    rfl
  have hi : Lib.indexByte l.data.toList 32 = ((3 : Nat) : Int):=by rw [e];exact index_word ha hb hc
  constructor
  · rw [cut_pos hi]
    have e3 : l.data.toList.take 3 = [a,b,c]:=by rw [e];rfl
    have e4 : (⟨(l.data.toList.drop (3 + 1)).toArray⟩ : ByteArray) = l.extract 4 l.size:=by
      rw [← mk_list (l.extract 4 l.size),drop_sub]
    rw [e3,e4]
  · rw [← mk_list (l.extract 0 3),Stim.extract_list,List.drop_zero,show 3 - 0 = 3 from rfl]
    rw [show l.data.toList.take 3 = [a,b,c] by rw [e];rfl]
theorem line_noword {l : ByteArray} {a b c : UInt8} (h : l.data.toList.take 4 ≠ [a,b,c,32]) (hc : (cutS l 32).2.2 = true) : (cutS l 32).1 ≠ ⟨#[a,b,c]⟩:=by
  intro hw
  have hge:=Lib.indexByte_ge l.data.toList 32
  by_cases hneg : Lib.indexByte l.data.toList 32 < 0
  · rw [(cut_neg hneg).1] at hc
    cases hc
  · obtain ⟨i,hi⟩ : ∃ i : Nat,Lib.indexByte l.data.toList 32 = i:=⟨_,(Int.toNat_of_nonneg (by omega)).symm⟩
    rw [cut_pos hi] at hw
    have hw2 : l.data.toList.take i = [a,b,c]:=congrArg (fun x : ByteArray => x.data.toList) hw
    obtain ⟨h32,_⟩:=Lib.indexByte_some hi
    have hil:=(List.getElem?_eq_some_iff.1 h32).1
    have hi3 : i = 3:=by
      have:=congrArg List.length hw2
      rw [List.length_take] at this
      have e3 : ([a,b,c] : List UInt8).length = 3:=rfl
      omega
    subst hi3
    apply h
    have:=List.take_add_one (l:=l.data.toList) (i:=3)
    rw [this,hw2,h32]
    rfl
theorem nums_empty : numsR ⟨#[]⟩ = ([],false):=by rfl
theorem headOf_bad (l : ByteArray) (e : Bool) (w : ByteArray) (n : List Int × Bool) (h : e = false ∨ n.2 = false ∨ (w ≠ aagB ∧ w ≠ aigB)) : headOf l e w n = headErr 40:=by
  unfold headOf
  by_cases h1 : e = false
  · rw [if_pos h1]
  rw [if_neg h1]
  by_cases h2 : n.2 = false
  · rw [if_pos h2]
  rw [if_neg h2]
  rcases h with h|h|h
  · exact absurd h h1
  · exact absurd h h2
  · rw [if_pos h]
theorem tail_eq (l w : ByteArray) (n : List Int × Bool) (q : Int) (hq : q = (l.size : Int) + 1) (hw : l.extract 0 3 = w) (hw2 : w = aagB ∨ w = aigB) :
    (if (tailH l q n).2.2.2 = false then ((⟨#[]⟩ : ByteArray),([] : List Int),(0 : Int),(0 : Int),(40 : Int)) else headEndR (tailH l q n).1 (tailH l q n).2.1 (tailH l q n).2.2.1 (decide (16384 < (tailH l q n).2.1.getD 0 0) || ((tailH l q n).2.1.drop 1).any (fun x => decide (16384 < x)))) =
    ((headOf l true w n).1,(headOf l true w n).2.1,(headOf l true w n).2.2.1,0,(headOf l true w n).2.2.2):=by
  unfold headOf
  rw [if_neg (show ¬ true = false by decide)]
  by_cases h2 : n.2 = false
  · rw [show tailH l q n = badH from if_pos (Or.inl h2),if_pos h2]
    rfl
  rw [if_neg h2]
  have hw3 : ¬ (w ≠ aagB ∧ w ≠ aigB):=fun h => by rcases hw2 with h1|h1;exact h.1 h1;exact h.2 h1
  rw [if_neg hw3]
  by_cases h5 : n.1.length < 5
  · rw [show tailH l q n = badH from if_pos (Or.inr (Or.inl h5)),if_pos h5]
    rfl
  rw [if_neg h5]
  by_cases h9 : 9 < n.1.length
  · rw [show tailH l q n = badH from if_pos (Or.inr (Or.inr h9)),if_pos h9]
    rfl
  rw [show tailH l q n = (l.extract 0 3,nine n.1,q,true) from if_neg (fun h => by rcases h with h|h|h;exact h2 h;exact h5 h;exact h9 h),if_neg h9]
  rw [if_neg (show ¬ (l.extract 0 3,nine n.1,q,true).2.2.2 = false from Bool.noConfusion)]
  dsimp only
  unfold headEndR
  by_cases h0 : 16384 < (nine n.1).getD 0 0
  · rw [decide_eq_true h0,Bool.true_or,if_pos rfl,if_pos h0]
    rfl
  rw [decide_eq_false h0,Bool.false_or,if_neg h0]
  by_cases ha : ((nine n.1).drop 1).any (fun x => decide (16384 < x)) = true
  · rw [if_pos ha]
    split <;> rfl
  rw [if_neg ha,if_neg ha]
  by_cases hs : (nine n.1).getD 0 0 < (nine n.1).getD 1 0 + (nine n.1).getD 2 0 + (nine n.1).getD 4 0
  · rw [if_pos hs,if_pos hs]
    rfl
  · rw [if_neg hs,if_neg hs,hw,hq]
theorem head_eq (s : ByteArray) : headR s = ((headF s).1,(headF s).2.1,(headF s).2.2.1,0,(headF s).2.2.2):=by
  unfold headR headF
  by_cases hs : 262144 < s.size
  · rw [if_pos hs,if_pos hs]
    rfl
  rw [if_neg hs,if_neg hs]
  have e0 : s.extract 0 s.size = s:=by
    rw [← mk_list (s.extract 0 s.size),drop_sub,List.drop_zero,mk_list]
  have hge:=Lib.indexByte_ge s.data.toList 10
  by_cases hneg : Lib.indexByte s.data.toList 10 < 0
  · have e1 : headerR s = badH:=by
      unfold headerR lineF
      rw [e0,if_pos hneg]
    rw [e1,headOf_bad _ _ _ _ (Or.inl (cut_neg hneg).1)]
    rfl
  · obtain ⟨i,hi⟩ : ∃ i : Nat,Lib.indexByte s.data.toList 10 = i:=⟨_,(Int.toNat_of_nonneg (by omega)).symm⟩
    obtain ⟨h10,_⟩:=Lib.indexByte_some hi
    have hil:=(List.getElem?_eq_some_iff.1 h10).1
    rw [data_length] at hil
    have el : (⟨(s.data.toList.take i).toArray⟩ : ByteArray) = s.extract 0 i:=by
      rw [← mk_list (s.extract 0 i),Stim.extract_list,List.drop_zero,Nat.sub_zero]
    have ec:=cut_pos hi
    rw [el] at ec
    rw [ec]
    dsimp only
    have hsz : (s.extract 0 i).size = i:=by rw [ByteArray.size_extract];omega
    have eh : lineF s 0 = some (s.extract 0 i,i + 1):=by
      unfold lineF
      rw [e0,if_neg hneg,hi]
      simp
    have eH : ∀ x,(if ((s.extract 0 i).data.toList.take 4 = aagL ∨ (s.extract 0 i).data.toList.take 4 = aigL) then tailH (s.extract 0 i) ((i + 1 : Nat) : Int) (numsR ((s.extract 0 i).extract 4 (s.extract 0 i).size)) else badH) = x → headerR s = x:=fun x hx => by
      unfold headerR
      rw [eh]
      exact hx
    generalize s.extract 0 i = l at hsz eH ⊢
    by_cases ha : l.data.toList.take 4 = aagL
    · obtain ⟨c1,c2⟩:=line_word (by decide) (by decide) (by decide) ha
      rw [eH _ (if_pos (Or.inl ha)),c1]
      dsimp only
      exact tail_eq l ⟨#[97,97,103]⟩ _ _ (by rw [hsz];rfl) c2 (Or.inl rfl)
    · by_cases hb : l.data.toList.take 4 = aigL
      · obtain ⟨c1,c2⟩:=line_word (by decide) (by decide) (by decide) hb
        rw [eH _ (if_pos (Or.inr hb)),c1]
        dsimp only
        exact tail_eq l ⟨#[97,105,103]⟩ _ _ (by rw [hsz];rfl) c2 (Or.inr rfl)
      · rw [eH _ (if_neg (fun h => by rcases h with h|h;exact ha h;exact hb h))]
        have hbad : headOf l true (cutS l 32).1 (numsR (cutS l 32).2.1) = headErr 40:=by
          apply headOf_bad
          right
          cases hc : (cutS l 32).2.2 with
          | true => exact Or.inr ⟨line_noword ha hc,line_noword hb hc⟩
          | false =>
            left
            have hge:=Lib.indexByte_ge l.data.toList 32
            by_cases hn : Lib.indexByte l.data.toList 32 < 0
            · rw [(cut_neg hn).2,nums_empty]
            · obtain ⟨j,hj⟩ : ∃ j : Nat,Lib.indexByte l.data.toList 32 = j:=⟨_,(Int.toNat_of_nonneg (by omega)).symm⟩
              rw [cut_pos hj] at hc
              cases hc
        rw [hbad]
        rfl
theorem same_loop (l : List Int) (hl : l.length ≤ 9) (m : Nat) : ∀ i : Nat,i + m = l.length → Ev (fun k => trestlebook_SameInts.l0 k l l (i : Int)) true:=by
  induction m with
  | zero =>
    intro i hi
    refine Ev.succ (fun k => ?_) (Ev.const _)
    unfold trestlebook_SameInts.l0
    rw [if_neg (by omega)]
  | succ m ih =>
    intro i hi
    refine Ev.succ (fun k => ?_) (ih (i + 1) (by omega))
    conv => lhs;unfold trestlebook_SameInts.l0
    rw [if_pos (by omega),if_pos (by omega),if_pos (by omega),if_pos rfl,IntWalk.wrap64_in _ (by omega)]
    rfl
theorem same_ev (l : List Int) (hl : l.length ≤ 9) : Ev (fun k => trestlebook_SameInts.f k l l) true:=by
  refine Ev.congr (fun k => ?_) (same_loop l hl l.length 0 (by omega))
  unfold trestlebook_SameInts.f
  rw [if_pos rfl]
  rfl
theorem headOf_len (l : ByteArray) (e : Bool) (w : ByteArray) (n : List Int × Bool) : (headOf l e w n).2.1.length ≤ 9:=by
  unfold headOf
  repeat' split
  all_goals first|exact Nat.zero_le _|skip
  show (nine n.1).length ≤ 9
  rw [nine_len (by omega)]
  exact Nat.le_refl _
theorem headF_len (s : ByteArray) : (headF s).2.1.length ≤ 9:=by
  unfold headF
  split
  · exact Nat.zero_le _
  · exact headOf_len _ _ _ _
theorem heads_law (s : ByteArray) : ∃ k,trestleref04_Head.f k s = some ((headF s).1,(headF s).2.1,(headF s).2.2.1,0,(headF s).2.2.2) ∧ trestlebook_SameInts.f k (headF s).2.1 (headF s).2.1 = some true:=by
  have h1:=refHead_ev s
  rw [head_eq] at h1
  obtain ⟨K1,h1⟩:=h1
  obtain ⟨K2,h2⟩:=same_ev (headF s).2.1 (headF_len s)
  exact ⟨K1 + K2,h1 _ (by omega),h2 _ (by omega)⟩
end Go.Proofs.YtojepjkpnponoaaDoor.Asc
end
section
namespace Go.Proofs.YtojepjkpnponoaaDoor.Asc
open Go Go.RowKit Go.Proofs.YtojepjkpnponoaaDoorW.PrintWords Go.Proofs.YtojepjkpnponoaaDoorW.PrintLast Go.Proofs.YtojepjkpnponoaaDoorW.PrintMore
set_option linter.unusedVariables false
set_option linter.unusedSimpArgs false
def OwnB (W : World) (g c : Nat) : Prop:=∃ cur : Array Value,cur.size = c ∧ W.heap[g]? = some (.cells cur 3 (0,0))
theorem OwnB.put {W : World} {g c : Nat} (h : OwnB W g c) (j : Nat) (u : Value) : OwnB (W.setCell ⟨g,j,none⟩ u) g c:=by
  obtain ⟨cur,h1,h2⟩:=h
  exact ⟨cur.setIfInBounds j u,by simp [h1],blk_put h2 j u rfl⟩
theorem OwnB.cell {W : World} {g c j : Nat} (h : OwnB W g c) (hj : j < c) : ∃ u,W.cell? ⟨g,j,none⟩ = some u:=by
  obtain ⟨cur,h1,h2⟩:=h
  rw [blk_cell h2 j]
  exact ⟨cur[j]'(by omega),Array.getElem?_eq_getElem (by omega)⟩
theorem OwnB.frozen {W : World} {g c : Nat} (h : OwnB W g c) (j : Nat) : W.frozen? ⟨g,j,none⟩ = false:=by
  obtain ⟨cur,h1,h2⟩:=h
  exact blk_frozen h2 j
set_option maxHeartbeats 4000000 in
set_option maxRecDepth 100000 in
theorem spoil_calls {P : World → Prop} {w : World} {g n c : Nat} (hb : OwnB w g c) (hn : n ≤ c) (hc : c ≤ 9223372036854775807) (hP0 : P w) (hP : ∀ W j u,P W → P (W.setCell ⟨g,j,none⟩ u)) (m : Int) :
    Calls Tryd.prog 24 #[.slice (some ⟨g,0,none⟩) n c,.int .i64 m] w fun e w' => e = .returned (.tuple #[]) ∧ P w':=by
  have HP:=Aside0.mk hP
  have HP0:=Aside0.mk hP0
  have HB:=Aside0.mk hb
  have HN:=Aside0.mk hn
  have HC:=Aside0.mk hc
  clear hb hn hP0 hP hc
  go_enter Tryd.func24,Tryd.ntmps24
  go_wp2
  (try simp only [Act.put,List.setIfInBounds_toArray,List.set_cons_zero,List.set_cons_succ])
  go_loopg [4] (n + 1) (fun kq v4 w' => ∃ k : Nat,v4 = .int .i64 k ∧ Aside0 (k + kq = n + 1) ∧ Aside0 (k ≤ n) ∧ Aside0 (OwnB w' g c) ∧ Aside0 (P w'))
  case atStart => exact ⟨0,rfl,⟨by omega⟩,⟨by omega⟩,HB,HP0⟩
  case round =>
    clear HB HP0
    obtain ⟨k,rfl,HK,HKN,HB,HPW⟩:=hrel
    have hn:=HN.out
    have hc:=HC.out
    by_cases ck : k < n
    · obtain ⟨g1,rfl⟩ : ∃ g1,gk = g1 + 1:=by
        cases gk with
        | zero => have:=HK.out;omega
        | succ g1 => exact ⟨g1,rfl⟩
      have ckb : decide ((k : Int) < (n : Int)) = true:=decide_eq_true (by omega)
      have ck2 : (k : Int) < (n : Int):=by omega
      obtain ⟨u,hu⟩:=HB.out.cell (j:=k) (by omega)
      have hf:=HB.out.frozen k
      have hw1 : IntKind.i64.wrap ((k : Int) + 1) = ((k + 1 : Nat) : Int):=by rw [IntKind.wrap_i64];omega
      clear hn hc
      go_wp2
      go_roundg g1
      case measure => omega
      case rel => exact ⟨k + 1,rfl,⟨by have:=HK.out;omega⟩,⟨by omega⟩,⟨HB.out.put _ _⟩,⟨HP.out _ _ _ HPW.out⟩⟩
    · have hkn : k = n:=by have:=HKN.out;omega
      subst hkn
      clear ck
      by_cases cc : k < c
      · have ccb : decide ((k : Int) < (c : Int)) = true:=decide_eq_true (by omega)
        obtain ⟨u,hu⟩:=HB.out.cell (j:=k) (by omega)
        have hf:=HB.out.frozen k
        go_wp2
        refine bodyPost_end (results_none rfl _ _ _) rfl ?_
        exact ⟨rfl,HP.out _ _ _ HPW.out⟩
      · have ccb : decide ((k : Int) < (c : Int)) = false:=decide_eq_false (by omega)
        go_wp2
        refine bodyPost_end (results_none rfl _ _ _) rfl ?_
        exact ⟨rfl,HPW.out⟩
end Go.Proofs.YtojepjkpnponoaaDoor.Asc
end
