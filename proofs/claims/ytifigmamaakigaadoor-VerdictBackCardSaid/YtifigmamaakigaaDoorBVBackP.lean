import Derived.Test.YtifigmamaakigaaDoorBVText
namespace Go.Proofs.YtifigmamaakigaaDoor.V
open Go Go.RowKit Go.Proofs.YtifigmamaakigaaDoorW.PrintWords
set_option linter.unusedVariables false
set_option linter.unusedSimpArgs false
theorem bytesA_ext {l : List UInt8} {s : ByteArray} (h : s.data.toList = l) : s = bytesA l:=by rw [← h,bytesA_data]
theorem split_frags : ∀ (k : Nat) (s : ByteArray),Lib.countB s ⟨#[32]⟩ = k → Lib.splitB ⟨#[32]⟩ 0 k s = fragsB s
  | k,s,hk => by
    have hix : Lib.indexB s ⟨#[32]⟩ = Lib.indexByte s.data.toList 32:=Lib.index_one _ _
    rcases Lib.indexB_cases s ⟨#[32]⟩ with h|⟨i,h,_⟩
    · rw [Lib.splitB_miss _ _ _ _ h,fragsB_none s (by rw [← hix,h];decide)]
    · cases k with
      | zero =>
        have:=Lib.countB_hit s ⟨#[32]⟩ i (by decide) h
        omega
      | succ k =>
        rw [Lib.splitB_hit _ _ _ _ i h,fragsB_some s i (by rw [← hix,h])]
        have hc:=Lib.countB_hit s ⟨#[32]⟩ i (by decide) h
        rw [Nat.add_zero]
        exact congrArg _ (split_frags k (s.extract (i + 1) s.size) (by
          have : (⟨#[32]⟩ : ByteArray).size = 1:=rfl
          rw [this] at hc
          omega))
theorem fieldsF_frags (l : ByteArray) : fieldsF l = fragsB l:=split_frags _ l rfl
theorem itoa_nat (n : Int) (h : 0 ≤ n) : Lib.itoa n = Lib.decDigits n.toNat:=by
  unfold Lib.itoa
  rw [if_neg (by omega)]
theorem number_itoa (n : Int) (h0 : 0 ≤ n) (h1 : n < 16384) : numberF (bytesA (Lib.itoa n)) = n:=by
  have hp : Lib.parseUintB 31 (Lib.itoa n) = .ok n.toNat:=by
    unfold Lib.parseUintB
    rw [if_neg (itoa_ne n h0),itoa_nat n h0]
    exact parse_digits _ (by decide) _ (by omega)
  unfold numberF
  rw [bytes_of,hp]
  have e2 : ((n.toNat : Nat) : Int) = n:=by omega
  show (if _ then _ else _) = _
  rw [e2]
  exact if_pos rfl
theorem number_some {s : ByteArray} (h : 0 ≤ numberF s) : s = bytesA (Lib.itoa (numberF s)):=by
  unfold numberF at h ⊢
  split at h
  · rename_i u hu
    split at h
    · rename_i hs
      rw [if_pos hs]
      exact hs.symm
    · omega
  · omega
theorem decode_lo (s : ByteArray) (i : Nat) (h : (s.get! i).toNat < 128) : Utf8.decode s i = ((s.get! i).toNat,1):=by
  unfold Utf8.decode
  simp only [Nat.add_zero]
  rw [if_pos h]
theorem decode_hi (s : ByteArray) (i : Nat) (h : ¬ (s.get! i).toNat < 128) : 128 ≤ (Utf8.decode s i).1:=by
  unfold Utf8.decode
  simp only [Nat.add_zero]
  rw [if_neg h]
  have hr : 128 ≤ Utf8.runeError:=by decide
  split
  · split
    · rename_i h2;exact h2
    · exact hr
  · split
    · split
      · rename_i h2
        simp only [Bool.and_eq_true,decide_eq_true_eq] at h2
        exact Nat.le_trans (by decide) h2.1
      · exact hr
    · split
      · split
        · rename_i h2
          simp only [Bool.and_eq_true,decide_eq_true_eq] at h2
          exact Nat.le_trans (by decide) h2.1
        · exact hr
      · exact hr
theorem eng_from (s : ByteArray) : ∀ (f pos : Nat),s.size ≤ pos + f → Lib.idxFuncFrom (fun c => decide (c < 33) || decide (c > 126)) true s f pos < 0 → ∀ k,pos ≤ k → k < s.size → 33 ≤ (s.get! k).toNat ∧ (s.get! k).toNat ≤ 126
  | 0,pos,hf,_,k,h1,h2 => by omega
  | f + 1,pos,hf,h,k,h1,h2 => by
    rw [Lib.idxFuncFrom,if_pos (by omega)] at h
    split at h
    · omega
    · rename_i hp
      simp only [Bool.or_eq_true,decide_eq_true_eq,not_or,Nat.not_lt] at hp
      have hb : (s.get! pos).toNat < 128:=by
        apply Classical.byContradiction
        intro hb
        have:=decode_hi s pos hb
        omega
      rw [decode_lo s pos hb] at h hp
      rcases Nat.eq_or_lt_of_le h1 with e|e
      · subst e
        exact ⟨by omega,by omega⟩
      · exact eng_from s f (pos + 1) (by omega) h k e h2
theorem eng_bytes {s : ByteArray} (h : engB s = true) : ∀ c ∈ s.data.toList,33 ≤ c.toNat ∧ c.toNat ≤ 126:=by
  unfold engB at h
  simp only [Bool.not_eq_true',decide_eq_false_iff_not,Int.not_le] at h
  have hk:=eng_from s s.size 0 (by omega) h
  intro c hc
  obtain ⟨k,hk1,hk2⟩:=List.mem_iff_getElem.1 hc
  have hk3 : k < s.size:=by rw [← size_list];exact hk1
  have:=hk k (Nat.zero_le _) hk3
  have e : s.get! k = c:=by
    rw [← hk2]
    have hx : k < s.data.size:=by simpa using hk1
    show s.data[k]! = _
    rw [getElem!_pos s.data k hx,Array.getElem_toList]
  rwa [e] at this
theorem may_parts {r : RW} (h : mayB r = true) : (r.f0 = 98 ∨ r.f0 = 106) ∧ (0 ≤ r.f1 ∧ r.f1 < 16384) ∧ (r.f3 = 0 ∨ r.f3 = 3 ∨ r.f3 = 4) ∧ (0 ≤ r.f4 ∧ r.f4 ≤ 512) ∧ (1 ≤ r.f2.size ∧ r.f2.size ≤ 64) ∧ engB r.f2 = true:=by
  unfold mayB at h
  simp only [Bool.and_eq_true,Bool.or_eq_true,beq_iff_eq,decide_eq_true_eq] at h
  obtain ⟨⟨⟨⟨⟨⟨⟨⟨h0,h1⟩,h2⟩,h3⟩,h4⟩,h5⟩,h6⟩,h7⟩,h8⟩:=h
  exact ⟨h0,⟨h1,h2⟩,by omega,⟨h6,h7⟩,⟨h3,h4⟩,h8⟩
def wordsT (r : RW) : List (List UInt8):=[UInt8.ofNat r.f0.toNat :: Lib.itoa r.f1,r.f2.data.toList,(wordF r.f3).data.toList,Lib.itoa r.f4]
def lineT (r : RW) : List UInt8:=joined (wordsT r)
theorem lineT_eq (r : RW) : lineT r = UInt8.ofNat r.f0.toNat :: Lib.itoa r.f1 ++ 32 :: (r.f2.data.toList ++ 32 :: ((wordF r.f3).data.toList ++ 32 :: Lib.itoa r.f4)):=rfl
theorem words_no {r : RW} (h : mayB r = true) (c : UInt8) (hc : c.toNat < 33) : ∀ f ∈ wordsT r,c ∉ f:=by
  obtain ⟨h0,h1,h3,h4,h2,h5⟩:=may_parts h
  intro f hf
  unfold wordsT at hf
  simp only [List.mem_cons,List.not_mem_nil,or_false] at hf
  rcases hf with rfl|rfl|rfl|rfl
  · simp only [List.mem_cons,not_or]
    refine ⟨fun e => ?_,itoa_no r.f1 h1.1 c (by omega)⟩
    subst e
    rcases h0 with e|e <;> rw [e] at hc <;> exact absurd hc (by decide)
  · intro hm
    have:=eng_bytes h5 c hm
    omega
  · intro hm
    have hw : ∀ k : Int,k = 0 ∨ k = 3 ∨ k = 4 → ∀ c ∈ (wordF k).data.toList,33 ≤ c.toNat:=by
      rintro k (rfl|rfl|rfl) <;> decide
    have:=hw _ h3 c hm
    omega
  · exact itoa_no r.f4 h4.1 c (by omega)
theorem joined_no (c : UInt8) (hc : c ≠ 32) : ∀ fs : List (List UInt8),(∀ f ∈ fs,c ∉ f) → c ∉ joined fs
  | [],_ => by simp [joined]
  | [f],h => h f (by simp)
  | f :: g :: fs,h => by
    rw [joined]
    simp only [List.mem_append,List.mem_cons,not_or]
    exact ⟨h f (by simp),hc,joined_no c hc (g :: fs) fun x hx => h x (by simp [hx])⟩
theorem idx_kind (k : Int) (h : k = 0 ∨ k = 3 ∨ k = 4) : Lib.idxOfS kindL (wordF k) = k:=by
  rcases h with rfl|rfl|rfl <;> decide +kernel
theorem kind_idx {c : ByteArray} (h : Lib.idxOfS kindL c = 0 ∨ Lib.idxOfS kindL c = 3 ∨ Lib.idxOfS kindL c = 4) : c = wordF (Lib.idxOfS kindL c):=by
  have hm : c ∈ kindL:=(Lib.idxOfS_nonneg_iff kindL c).1 (by omega)
  unfold kindL at hm
  simp only [List.mem_cons,List.not_mem_nil,or_false] at hm
  rcases hm with rfl|rfl|rfl|rfl|rfl
  · decide +kernel
  · exact absurd h (by decide +kernel)
  · exact absurd h (by decide +kernel)
  · decide +kernel
  · decide +kernel
theorem bt_head (c : UInt8) (l : List UInt8) : bt (bytesA (c :: l)) 0 = (c.toNat : Int):=by
  unfold bt
  rw [dif_pos (by rw [bytes_size];simp)]
  rfl
theorem bytes_tail (c : UInt8) (l : List UInt8) : (bytesA (c :: l)).extract 1 (bytesA (c :: l)).size = bytesA l:=by
  apply bytesA_ext
  rw [extract_list,bytes_of,bytes_size]
  simp
theorem row_there {r : RW} (h : mayB r = true) : rowF (bytesA (lineT r)) = (r,true):=by
  have h':=h
  obtain ⟨h0,h1,h3,h4,h2,h5⟩:=may_parts h
  have hf : fieldsF (bytesA (lineT r)) = [bytesA (UInt8.ofNat r.f0.toNat :: Lib.itoa r.f1),bytesA r.f2.data.toList,bytesA (wordF r.f3).data.toList,bytesA (Lib.itoa r.f4)]:=by
    rw [fieldsF_frags,fragsB,bytes_of,lineT,joined_frags _ (by simp [wordsT]) (words_no h 32 (by decide))]
    rfl
  have hw : ∀ k : Int,k = 0 ∨ k = 3 ∨ k = 4 → (wordF k).size ≠ 0:=by rintro k (rfl|rfl|rfl) <;> decide
  have e0 : ((UInt8.ofNat r.f0.toNat).toNat : Int) = r.f0:=by rcases h0 with e|e <;> rw [e] <;> rfl
  rw [bytesA_data,bytesA_data] at hf
  rw [rowF_yes hf (by
    rw [bytes_size,List.length_cons]
    rintro (h|h)
    · omega
    · exact hw _ h3 h),bytes_tail,bt_head,number_itoa _ h1.1 h1.2,idx_kind _ h3,number_itoa _ h4.1 (by omega),e0]
  rw [show (⟨r.f0,r.f1,r.f2,r.f3,r.f4⟩ : RW) = r from rfl,h']
theorem row_back {l : ByteArray} {r : RW} (h : rowF l = (r,true)) : l.data.toList = lineT r ∧ mayB r = true:=by
  have hj : l.data.toList = joined (frags l.data.toList):=(frags_joined _).symm
  unfold rowF at h
  split at h
  · rename_i a b c d hf
    rw [fieldsF_frags,fragsB] at hf
    split at h
    · injection h with _ h;cases h
    · rename_i hn
      injection h with h1 h2
      rw [h1] at h2
      obtain ⟨g0,g1,g3,g4,g2,g5⟩:=may_parts h2
      rw [← h1] at g0 g1 g3 g4
      dsimp only at g0 g1 g3 g4
      have ea:=number_some g1.1
      have ed:=number_some g4.1
      have ec:=kind_idx g3
      have hfl : frags l.data.toList = [a.data.toList,b.data.toList,c.data.toList,d.data.toList]:=by
        have:=congrArg (List.map (fun s : ByteArray => s.data.toList)) hf
        rw [List.map_map] at this
        have hid : ((fun s : ByteArray => s.data.toList) ∘ bytesA) = id:=by funext x;exact bytes_of x
        rw [hid,List.map_id] at this
        exact this
      refine ⟨?_,h2⟩
      rw [hj,hfl,← h1]
      unfold lineT wordsT
      dsimp only
      have e1 : a.data.toList = UInt8.ofNat (bt a 0).toNat :: Lib.itoa (numberF (a.extract 1 a.size)):=by
        generalize numberF (a.extract 1 a.size) = nn at ea ⊢
        have hx:=congrArg (fun s : ByteArray => s.data.toList) ea
        try dsimp only at hx
        rw [extract_list,bytes_of,← size_list] at hx
        cases hl : a.data.toList with
        | nil => exact absurd (by rw [← size_list,hl];rfl) (not_or.1 hn).1
        | cons x t =>
          have hb : bt a 0 = (x.toNat : Int):=by rw [bytesA_ext hl];exact bt_head x t
          rw [hl] at hx
          rw [hb]
          simp only [List.drop_succ_cons,List.drop_zero,List.length_cons,Nat.add_sub_cancel,List.take_length] at hx
          rw [← hx]
          simp
      have e2 : c.data.toList = (wordF (Lib.idxOfS kindL c)).data.toList:=by rw [← ec]
      have e3 : d.data.toList = Lib.itoa (numberF d):=by
        have hx:=congrArg (fun s : ByteArray => s.data.toList) ed
        try dsimp only at hx
        rw [bytes_of] at hx
        exact hx
      rw [← e1,← e2,← e3]
  · injection h with _ h;cases h
def rowT (r : RW) : List UInt8:=lineT r ++ [10]
def tableL (l : List RW) : List UInt8:=l.flatMap rowT
theorem tableL_cons (r : RW) (l : List RW) : tableL (r :: l) = lineT r ++ 10 :: tableL l:=by
  unfold tableL rowT
  rw [List.flatMap_cons,List.append_assoc]
  rfl
def tableF (l : List RW) : ByteArray × Int:=if wrongF l ≠ 0 then (⟨#[]⟩,wrongF l) else if (tableL l).length > 262144 then (⟨#[]⟩,2) else (bytesA (tableL l),0)
theorem line_no {r : RW} (h : mayB r = true) : 10 ∉ lineT r:=joined_no 10 (by decide) _ (words_no h 10 (by decide))
theorem cutF_nl {s : ByteArray} {l r : List UInt8} (h : nl s.data.toList = some (l,r)) : cutF s = (bytesA l,true):=by
  unfold cutF
  rw [nl_cut,h]
  rfl
theorem cutF_no {s : ByteArray} (h : nl s.data.toList = none) : (cutF s).2 = false:=by
  unfold cutF
  rw [nl_cut,h]
theorem drop_ext (s : ByteArray) (i : Nat) : (s.extract i s.size).data.toList = s.data.toList.drop i:=Lib.extract_to_end s i
theorem read_there (s : ByteArray) : ∀ (l out : List RW) (i k : Nat),s.data.toList.drop i = tableL l → s.size < i + k → i ≤ s.size → out.length + l.length ≤ 16384 → (∀ r ∈ l,mayB r = true) → readRun s k i out = (out ++ l,0,0)
  | l,out,i,0,_,h,hi,_,_ => by omega
  | [],out,i,k + 1,ht,h,hi,_,_ => by
    have : s.size ≤ i:=by
      have:=congrArg List.length ht
      rw [List.length_drop,size_list] at this
      simp [tableL] at this
      omega
    rw [readRun,if_neg (by omega),List.append_nil]
  | r :: l,out,i,k + 1,ht,h,hi,hn,hm => by
    have hr:=hm r (by simp)
    rw [tableL_cons] at ht
    have hlt : i + (lineT r).length + 1 ≤ s.size:=by
      have:=congrArg List.length ht
      rw [List.length_drop,size_list,List.length_append,List.length_cons] at this
      omega
    have hc : cutF (s.extract i s.size) = (bytesA (lineT r),true):=cutF_nl (r:=tableL l) (by rw [drop_ext,ht];exact nl_at _ _ (line_no hr))
    rw [readRun,if_pos (by omega),hc]
    dsimp only
    rw [row_there hr,if_pos ⟨rfl,rfl⟩,if_neg (by rw [List.length_cons] at hn;omega),bytes_size]
    rw [read_there s l (out ++ [r]) (i + (lineT r).length + 1) k ?_ (by omega) hlt (by rw [List.length_append,List.length_singleton];rw [List.length_cons] at hn;omega) (fun x hx => hm x (by simp [hx]))]
    · rw [List.append_assoc];rfl
    · rw [Nat.add_assoc,← List.drop_drop,ht,show (lineT r).length + 1 = (lineT r ++ [10]).length by simp,show lineT r ++ 10 :: tableL l = (lineT r ++ [10]) ++ tableL l by simp,List.drop_left]
theorem read_forth (s : ByteArray) : ∀ (k i : Nat) (out x : List RW),readRun s k i out = (x,0,0) → s.size < i + k → i ≤ s.size → out.length ≤ 16384 → ∃ l,x = out ++ l ∧ s.data.toList.drop i = tableL l ∧ (∀ r ∈ l,mayB r = true) ∧ x.length ≤ 16384
  | 0,i,out,x,_,h,hi,_ => by omega
  | k + 1,i,out,x,hr,h,hi,hn => by
    rw [readRun] at hr
    split at hr
    · rename_i hlt
      split at hr
      · rename_i hc
        split at hr
        · injection hr with _ hr;injection hr with _ hr;exact absurd hr (by decide)
        · rename_i hl
          cases hnl : nl (s.extract i s.size).data.toList with
          | none => rw [cutF_no hnl] at hc;exact absurd hc.1 (by decide)
          | some y =>
            obtain ⟨ln,rest⟩:=y
            have hcut:=cutF_nl hnl
            obtain ⟨hd,_⟩:=nl_some hnl
            rw [drop_ext] at hd
            rw [hcut] at hc hr
            dsimp only at hc hr
            obtain ⟨e1,e2⟩:=row_back (l:=bytesA ln) (r:=(rowF (bytesA ln)).1) (Prod.ext rfl hc.2)
            rw [bytes_of] at e1
            rw [bytes_size] at hr
            have hlen:=congrArg List.length hd
            rw [List.length_drop,size_list,List.length_append,List.length_cons] at hlen
            obtain ⟨l,h1,h2,h3,h4⟩:=read_forth s k (i + ln.length + 1) (out ++ [(rowF (bytesA ln)).1]) x hr (by omega) (by omega) (by rw [List.length_append,List.length_singleton];omega)
            refine ⟨(rowF (bytesA ln)).1 :: l,by rw [h1,List.append_assoc];rfl,?_,?_,h4⟩
            · rw [tableL_cons,hd,← e1,← h2,Nat.add_assoc,← List.drop_drop,hd,show ln.length + 1 = (ln ++ [10]).length by simp,show ln ++ 10 :: rest = (ln ++ [10]) ++ rest by simp,List.drop_left]
              simp
            · intro r hr
              rcases List.mem_cons.1 hr with rfl|hr
              · exact e2
              · exact h3 r hr
      · injection hr with _ hr;injection hr with _ hr;exact absurd hr (by decide)
    · rename_i hge
      injection hr with hr
      subst hr
      refine ⟨[],(List.append_nil _).symm,?_,(fun _ h => by cases h),hn⟩
      rw [List.drop_eq_nil_of_le (by rw [size_list];omega)]
      rfl
theorem readRun_bad (s : ByteArray) : ∀ (k i : Nat) (out : List RW),((readRun s k i out).2 = (0,0)) ∨ ((readRun s k i out).1 = [] ∧ (readRun s k i out).2.2 ≠ 0)
  | 0,i,out => .inl rfl
  | k + 1,i,out => by
    rw [readRun]
    split
    · split
      · split
        · exact .inr ⟨rfl,show (2 : Int) ≠ 0 by decide⟩
        · exact readRun_bad s k _ _
      · exact .inr ⟨rfl,show (3 : Int) ≠ 0 by decide⟩
    · exact .inl rfl
theorem readF_bad (s : ByteArray) : ((readF s).2 = (0,0)) ∨ ((readF s).1 = [] ∧ (readF s).2.2 ≠ 0):=by
  unfold readF
  split
  · exact .inr ⟨rfl,show (2 : Int) ≠ 0 by decide⟩
  · exact readRun_bad s _ _ _
theorem tableF_bad (l : List RW) : ((tableF l).2 ≠ 0 ∧ (tableF l).1 = ⟨#[]⟩) ∨ (∃ t,tableF l = (t,0) ∧ readF t = (l,0,0)):=by
  unfold tableF
  split
  · rename_i h
    exact .inl ⟨h,rfl⟩
  · rename_i h
    split
    · exact .inl ⟨show (2 : Int) ≠ 0 by decide,rfl⟩
    · rename_i h2
      refine .inr ⟨_,rfl,?_⟩
      obtain ⟨h3,h4⟩:=wrongF_zero.1 (Decidable.not_not.1 h)
      unfold readF
      rw [if_neg (by rw [bytes_size];omega)]
      exact (read_there (bytesA (tableL l)) l [] 0 _ (by rw [bytes_of];rfl) (by omega) (Nat.zero_le _) (by simpa using h3) h4)
theorem read_told {s : ByteArray} {x : List RW} (h : readF s = (x,0,0)) : tableF x = (s,0):=by
  unfold readF at h
  split at h
  · injection h with _ h;injection h with _ h;exact absurd h (by decide)
  · rename_i hs
    obtain ⟨l,h1,h2,h3,h4⟩:=read_forth s _ 0 [] x h (by omega) (Nat.zero_le _) (by simp)
    rw [List.nil_append] at h1
    subst h1
    rw [List.drop_zero] at h2
    unfold tableF
    rw [if_neg (fun h => h (wrongF_zero.2 ⟨h4,h3⟩)),if_neg (by rw [← h2,size_list];omega),← h2,bytesA_data]
end Go.Proofs.YtifigmamaakigaaDoor.V

