import Derived.Test.YtojepjkpnponoaaDoorFLines
import Derived.Test.YtojepjkpnponoaaDoorFStim4
import Derived.Test.YtojepjkpnponoaaDoorFPureK
set_option linter.unusedSimpArgs false
namespace Go.Proofs.YtojepjkpnponoaaDoor.Stim
open Go Go.RowKit Go.Proofs.YtojepjkpnponoaaDoorW.PrintWords
set_option linter.unusedVariables false
def loopWord : List UInt8:=[99,32,108,111,111,112,32]
def rowRead (n : Int) (l : List UInt8) : Option (List Bool):=if (l.length : Int) = n then rowOf l else none
def loopRead (l : List UInt8) (m : Nat) : Option Int :=
  if l.take 7 = loopWord ∧ (numOf (l.drop 7)).2 = true ∧ (numOf (l.drop 7)).1 < (m : Int) then some (numOf (l.drop 7)).1 else none
def propsRead (l : List UInt8) : Option (List S83) :=
  (propsOf ((frags l).map bytesA)).bind fun ps => if propsSpec ps = 0 then some ps else none
def traceRun (inn : Int) : Nat → List UInt8 → List (List Bool) → List (List Bool) × Int × Bool × List UInt8
  | 0,T,ins => (ins,-1,false,T)
  | k + 1,T,ins =>
    match nl T with
    | none => (ins,-1,false,T)
    | some (l,r) =>
      if 0 < ins.length ∧ l = [46] then (ins,-1,true,T)
      else match (if 0 < ins.length then loopRead l ins.length else none) with
        | some n => (ins,n,true,r)
        | none => match rowRead inn l with
          | none => (ins,-1,false,T)
          | some x => if ins.length = 512 then (ins,-1,false,T) else traceRun inn k r (ins ++ [x])
def traceSpec (la inn : Int) (T : List UInt8) : List Bool × List (List Bool) × Int × Bool × List UInt8 :=
  match nl T with
  | none => ([],[],-1,false,T)
  | some (l,r) => match rowRead la l with
    | none => ([],[],-1,false,T)
    | some init => (init,traceRun inn (T.length + 1) r [])
def pointRead (st : Int) (ps : List S83) (init : List Bool) (ins : List (List Bool)) (loop : Int) (T : List UInt8) : (Int × List S83 × List Bool × List (List Bool) × Int) × Int × List UInt8 :=
  match nl T with
  | none => ((0,[],[],[],0),3,T)
  | some (l,r) => if l = [46] then ((st,ps,init,ins,loop),0,r) else ((0,[],[],[],0),3,T)
def stRead (l : List UInt8) : Option Int:=if l = [48] then some 0 else if l = [49] then some 1 else if l = [50] then some 2 else none
def oneSpec (la inn : Int) (T : List UInt8) : (Int × List S83 × List Bool × List (List Bool) × Int) × Int × List UInt8 :=
  match nl T with
  | none => ((0,[],[],[],0),120,T)
  | some (l,r) => match stRead l with
    | none => ((0,[],[],[],0),120,T)
    | some st => match nl r with
      | none => ((0,[],[],[],0),121,r)
      | some (l2,r2) => match propsRead l2 with
        | none => ((0,[],[],[],0),121,r)
        | some ps =>
          if st = 1 then
            (if (traceSpec la inn r2).2.2.2.1 = true then pointRead 1 ps (traceSpec la inn r2).1 (traceSpec la inn r2).2.1 (traceSpec la inn r2).2.2.1 (traceSpec la inn r2).2.2.2.2
            else ((0,[],[],[],0),3,(traceSpec la inn r2).2.2.2.2))
          else pointRead st ps [] [] 0 r2
def posOf (s : ByteArray) (T : List UInt8) : Int:=(s.size : Int) - (T.length : Int)
theorem suffix_drop {s : ByteArray} {T : List UInt8} (h : T <:+ s.data.toList) : (s.extract (posOf s T).toNat s.size).data.toList = T:=by
  obtain ⟨p,hp⟩:=h
  have hl : p.length + T.length = s.size:=by rw [← size_list,← hp,List.length_append]
  rw [extract_list,← hp]
  have e : (posOf s T).toNat = p.length:=by
    unfold posOf
    omega
  rw [e,List.drop_left,List.take_of_length_le (by omega)]
theorem suffix_len {s : ByteArray} {T : List UInt8} (h : T <:+ s.data.toList) : T.length ≤ s.size:=by
  rw [← size_list]
  exact h.length_le
theorem line_f {s : ByteArray} {T : List UInt8} (h : T <:+ s.data.toList) (hs : s.size < 4294967281) (a b : Int) :
    stim_reader_line.f s (posOf s T) a b = some (bytesA (Lib.cut T [10]).1,(Lib.cut T [10]).2.2,s,posOf s T,a,b):=by
  have hl:=suffix_len h
  unfold stim_reader_line.f lineAt
  rw [if_pos (by unfold posOf;omega),if_pos (by unfold posOf;omega),if_pos hs,suffix_drop h]
  rfl
theorem line_some {s : ByteArray} {T l r : List UInt8} (h : T <:+ s.data.toList) (hs : s.size < 4294967281) (a b : Int) (hn : nl T = some (l,r)) :
    stim_reader_line.f s (posOf s T) a b = some (bytesA l,true,s,posOf s T,a,b):=by
  rw [line_f h hs,nl_cut,hn]
theorem line_none {s : ByteArray} {T : List UInt8} (h : T <:+ s.data.toList) (hs : s.size < 4294967281) (a b : Int) (hn : nl T = none) :
    stim_reader_line.f s (posOf s T) a b = some (bytesA T,false,s,posOf s T,a,b):=by
  rw [line_f h hs,nl_cut,hn]
theorem nl_suffix {s : ByteArray} {T l r : List UInt8} (h : T <:+ s.data.toList) (hn : nl T = some (l,r)) : r <:+ s.data.toList:=by
  obtain ⟨rfl,_⟩:=nl_some hn
  exact List.IsSuffix.trans ⟨l ++ [10],by simp⟩ h
theorem skip_f {s : ByteArray} {T l r : List UInt8} (h : T <:+ s.data.toList) (hs : s.size < 4294967281) (a b : Int) (hn : nl T = some (l,r)) :
    stim_reader_skip.f s (posOf s T) a b (bytesA l) = some (s,posOf s r,a,b):=by
  have h1:=nl_len hn
  have h2:=suffix_len h
  unfold stim_reader_skip.f
  rw [bytes_size]
  have e1 : wrap64 ((l.length : Int) + 1) = (l.length : Int) + 1:=wrapS (by omega) (by omega)
  rw [e1]
  have e2 : wrap64 (posOf s T + ((l.length : Int) + 1)) = posOf s r:=by
    rw [wrapS (by unfold posOf;omega) (by unfold posOf;omega)]
    unfold posOf
    omega
  rw [e2]
theorem row_f (l : List UInt8) (n : Int) (h : l.length < 4294967281) : stim_row.f (bytesA l) n = some (match rowRead n l with
    | some x => (x,true)
    | none => ([],false)):=by
  unfold stim_row.f rowRead
  rw [bytes_size,bytes_of,if_pos (by omega)]
  by_cases hn : (l.length : Int) = n
  · rw [if_pos hn,if_pos hn]
    cases rowOf l <;> rfl
  · rw [if_neg hn,if_neg hn]
theorem properties_f (l : List UInt8) (h : l.length < 4294967281) : ∃ ps ok,stim_properties.f (bytesA l) = some (ps,ok) ∧ propsRead l = if ok = true then some ps else none:=by
  unfold stim_properties.f propsRead fragsB
  rw [bytes_size,if_pos h,bytes_of]
  cases hp : propsOf ((frags l).map bytesA) with
  | none => exact ⟨[],false,rfl,rfl⟩
  | some ps =>
    refine ⟨ps,propsSpec ps == 0,?_,?_⟩
    · simp only [props_f,Option.bind_some]
    · simp only [Option.bind_some,beq_iff_eq]
theorem cut_f (l : List UInt8) : strings_CutPrefix.f (bytesA l) (⟨#[99,32,108,111,111,112,32]⟩ : ByteArray) = some (if l.take 7 = loopWord then (bytesA (l.drop 7),true) else (bytesA l,false)):=by
  have e7 : (⟨#[99,32,108,111,111,112,32]⟩ : ByteArray).size = 7:=rfl
  have eL : (⟨#[99,32,108,111,111,112,32]⟩ : ByteArray).toList = loopWord:=by
    rw [ByteArray.toList_eq]
    rfl
  have hx : ∀ a b : Nat,((bytesA l).extract a b).toList = (l.drop a).take (b - a):=by
    intro a b
    rw [ByteArray.toList_eq,extract_list,bytes_of]
  have hy : (bytesA l).extract 7 (bytesA l).size = bytesA (l.drop 7):=by
    rw [← bytesA_data ((bytesA l).extract 7 (bytesA l).size),extract_list,bytes_of,bytes_size,List.take_of_length_le (by simp)]
  unfold strings_CutPrefix.f stringslite_CutPrefix.f stringslite_HasPrefix.f
  simp only [e7,eL]
  by_cases h7 : 7 ≤ l.length
  · rw [if_pos (by rw [bytes_size];omega),if_pos (by omega),if_pos (by rw [bytes_size];omega)]
    simp only [Option.bind_some]
    have et : (((7 : Nat) : Int)).toNat = 7:=rfl
    rw [et,hx 0 7,hy]
    simp only [Nat.sub_zero,List.drop_zero,beq_iff_eq]
    by_cases hp : l.take 7 = loopWord
    · rw [if_pos hp,if_pos (by omega),if_pos (by rw [bytes_size];omega),if_pos hp]
      rfl
    · rw [if_neg hp,if_neg hp]
      rfl
  · rw [if_neg (by rw [bytes_size];omega)]
    have hp : ¬ l.take 7 = loopWord:=fun e => by
      have:=congrArg List.length e
      simp [loopWord] at this
      omega
    simp only [Option.bind_some,if_neg hp]
    rfl
theorem number_f (l : List UInt8) (h : l.length < 4294967281) : stim_number.f (bytesA l) = some (numOf l):=by
  unfold stim_number.f
  rw [bytes_size,if_pos (by omega),bytes_of]
theorem bytes_toList (l : List UInt8) : (bytesA l).toList = l:=by rw [ByteArray.toList_eq,bytes_of]
theorem wrong_f (s : ByteArray) (a b c e : Int) : stim_reader_wrong.f s a b c e = some (a,e,s,a,b,c):=rfl
theorem traceRun_f (s : ByteArray) (hs : s.size < 4294967281) (la inn : Int) (init : List Bool) : ∀ (n : Nat) (T : List UInt8) (ins : List (List Bool)),T <:+ s.data.toList → T.length < n → ins.length ≤ 512 → ∀ k,2 * T.length + 1 ≤ k →
    stim_reader_trace.l0 k s (posOf s T) la inn init ins (-1) = some (init,(traceRun inn n T ins).1,(traceRun inn n T ins).2.1,(traceRun inn n T ins).2.2.1,s,posOf s (traceRun inn n T ins).2.2.2,la,inn):=by
  intro n
  induction n with
  | zero => intro T ins _ h;omega
  | succ n ih =>
    intro T ins hT hn hi k hk
    obtain ⟨k,rfl⟩ : ∃ j,k = j + 1:=⟨k - 1,by omega⟩
    have hl:=suffix_len hT
    rw [stim_reader_trace.l0,traceRun]
    cases hc : nl T with
    | none =>
      rw [line_none hT hs _ _ hc]
      simp only [Option.bind_some,Bool.false_eq_true,if_false]
    | some x =>
      obtain ⟨l,r⟩:=x
      have hlen:=nl_len hc
      rw [line_some hT hs _ _ hc]
      simp only [Option.bind_some,if_true,bytes_toList]
      have step : ∀ j,2 * T.length ≤ j → stim_reader_trace.j2 j (bytesA l) s (posOf s T) la inn init ins (-1) = (match rowRead inn l with
          | none => some (init,ins,-1,false,s,posOf s T,la,inn)
          | some x => if ins.length = 512 then some (init,ins,-1,false,s,posOf s T,la,inn) else some (init,(traceRun inn n r (ins ++ [x])).1,(traceRun inn n r (ins ++ [x])).2.1,(traceRun inn n r (ins ++ [x])).2.2.1,s,posOf s (traceRun inn n r (ins ++ [x])).2.2.2,la,inn)):=by
        intro j hj
        obtain ⟨j,rfl⟩ : ∃ i,j = i + 1:=⟨j - 1,by omega⟩
        rw [stim_reader_trace.j2,row_f l inn (by omega)]
        cases hr : rowRead inn l with
        | none => simp only [Option.bind_some,Bool.false_eq_true,if_false]
        | some x =>
          simp only [Option.bind_some,if_true]
          by_cases h5 : ins.length = 512
          · rw [if_pos (by omega),if_pos h5]
          · rw [if_neg (by omega),if_neg h5,if_pos (by omega),skip_f hT hs _ _ hc]
            simp only [Option.bind_some]
            exact ih r (ins ++ [x]) (nl_suffix hT hc) (by omega) (by simp;omega) j (by omega)
      by_cases h0 : 0 < ins.length
      · rw [if_pos (by omega)]
        by_cases hd : l = [46]
        · rw [if_pos hd,if_pos ⟨h0,hd⟩]
        · rw [if_neg hd,if_neg (fun h => hd h.2),if_pos h0]
          by_cases hp : l.take 7 = loopWord
          · rw [cut_f,if_pos hp]
            simp only [Option.bind_some]
            rw [number_f _ (by simp;omega)]
            simp only [Option.bind_some,if_true]
            unfold loopRead
            by_cases hq : (numOf (l.drop 7)).2 = true
            · rw [if_pos hq]
              by_cases hm : (numOf (l.drop 7)).1 < (ins.length : Int)
              · rw [if_pos hm,if_pos ⟨hp,hq,hm⟩,skip_f hT hs _ _ hc]
                simp only [Option.bind_some]
              · rw [if_neg hm,if_neg (fun h => hm h.2.2),step k (by omega)]
                cases rowRead inn l with
                | none => rfl
                | some x => by_cases h5 : ins.length = 512 <;> simp [h5]
            · rw [if_neg hq,if_neg (fun h => hq h.2.1),step k (by omega)]
              cases rowRead inn l with
              | none => rfl
              | some x => by_cases h5 : ins.length = 512 <;> simp [h5]
          · rw [cut_f,if_neg hp]
            simp only [Option.bind_some]
            rw [number_f _ (by omega)]
            simp only [Option.bind_some,Bool.false_eq_true,if_false]
            unfold loopRead
            rw [if_neg (fun h => hp h.1),step k (by omega)]
            cases rowRead inn l with
            | none => rfl
            | some x => by_cases h5 : ins.length = 512 <;> simp [h5]
      · rw [if_neg (by omega),if_neg (fun h => h0 h.1),if_neg h0,step k (by omega)]
        cases rowRead inn l with
        | none => rfl
        | some x => by_cases h5 : ins.length = 512 <;> simp [h5]
theorem trace_f (s : ByteArray) (hs : s.size < 4294967281) (la inn : Int) (T : List UInt8) (hT : T <:+ s.data.toList) (k : Nat) (hk : 2 * T.length + 2 ≤ k) :
    stim_reader_trace.f k s (posOf s T) la inn = some ((traceSpec la inn T).1,(traceSpec la inn T).2.1,(traceSpec la inn T).2.2.1,(traceSpec la inn T).2.2.2.1,s,posOf s (traceSpec la inn T).2.2.2.2,la,inn):=by
  have hl:=suffix_len hT
  obtain ⟨k,rfl⟩ : ∃ j,k = j + 1:=⟨k - 1,by omega⟩
  unfold stim_reader_trace.f traceSpec
  cases hc : nl T with
  | none =>
    rw [line_none hT hs _ _ hc]
    simp only [Option.bind_some]
    rw [row_f T _ (by omega)]
    simp only [Option.bind_some,Bool.false_eq_true,if_false,stim_reader_trace.j0,if_true]
  | some x =>
    obtain ⟨l,r⟩:=x
    have hlen:=nl_len hc
    rw [line_some hT hs _ _ hc]
    simp only [Option.bind_some]
    rw [row_f l _ (by omega)]
    cases hr : rowRead la l with
    | none => simp only [Option.bind_some,if_true,stim_reader_trace.j0,Bool.not_false]
    | some init =>
      simp only [Option.bind_some,if_true,stim_reader_trace.j0,Bool.not_true,Bool.false_eq_true,if_false]
      rw [skip_f hT hs _ _ hc]
      simp only [Option.bind_some]
      exact traceRun_f s hs la inn init (T.length + 1) r [] (nl_suffix hT hc) (by omega) (by simp) k (by omega)
theorem traceRun_suffix (inn : Int) : ∀ (n : Nat) (T : List UInt8) (ins : List (List Bool)),(traceRun inn n T ins).2.2.2 <:+ T
  | 0,T,ins => List.suffix_refl _
  | n + 1,T,ins => by
    rw [traceRun]
    cases hc : nl T with
    | none => exact List.suffix_refl _
    | some x =>
      obtain ⟨l,r⟩:=x
      have hr : r <:+ T:=by
        obtain ⟨rfl,_⟩:=nl_some hc
        exact ⟨l ++ [10],by simp⟩
      simp only
      split
      · exact List.suffix_refl _
      · split
        · exact hr
        · split
          · exact List.suffix_refl _
          · split
            · exact List.suffix_refl _
            · exact (traceRun_suffix inn n r _).trans hr
theorem nl_suf {T l r : List UInt8} (hc : nl T = some (l,r)) : r <:+ T:=by
  obtain ⟨rfl,_⟩:=nl_some hc
  exact ⟨l ++ [10],by simp⟩
theorem traceSpec_suffix (la inn : Int) (T : List UInt8) : (traceSpec la inn T).2.2.2.2 <:+ T:=by
  unfold traceSpec
  cases hc : nl T with
  | none => exact List.suffix_refl _
  | some x =>
    obtain ⟨l,r⟩:=x
    simp only
    cases rowRead la l with
    | none => exact List.suffix_refl _
    | some init => exact (traceRun_suffix inn _ r []).trans (nl_suf hc)
theorem point_suffix (st : Int) (ps : List S83) (init : List Bool) (ins : List (List Bool)) (loop : Int) (T : List UInt8) : (pointRead st ps init ins loop T).2.2 <:+ T:=by
  unfold pointRead
  cases hc : nl T with
  | none => exact List.suffix_refl _
  | some x =>
    obtain ⟨l,r⟩:=x
    simp only
    split
    · exact nl_suf hc
    · exact List.suffix_refl _
theorem oneSpec_suffix (la inn : Int) (T : List UInt8) : (oneSpec la inn T).2.2 <:+ T:=by
  unfold oneSpec
  cases hc : nl T with
  | none => exact List.suffix_refl _
  | some x =>
    obtain ⟨l,r⟩:=x
    simp only
    cases stRead l with
    | none => exact List.suffix_refl _
    | some st =>
      simp only
      cases hd : nl r with
      | none => exact nl_suf hc
      | some y =>
        obtain ⟨l2,r2⟩:=y
        simp only
        cases propsRead l2 with
        | none => exact nl_suf hc
        | some ps =>
          simp only
          have h2 : r2 <:+ T:=(nl_suf hd).trans (nl_suf hc)
          split
          · split
            · exact ((point_suffix _ _ _ _ _ _).trans (traceSpec_suffix la inn r2)).trans h2
            · exact (traceSpec_suffix la inn r2).trans h2
          · exact (point_suffix _ _ _ _ _ _).trans h2
def oneOut (s : ByteArray) (la inn : Int) (o : (Int × List S83 × List Bool × List (List Bool) × Int) × Int × List UInt8) : Int × List S83 × List Bool × List (List Bool) × Int × Int × Int × ByteArray × Int × Int × Int :=
  (o.1.1,o.1.2.1,o.1.2.2.1,o.1.2.2.2.1,o.1.2.2.2.2,(if o.2.1 = 0 then 0 else posOf s o.2.2),o.2.1,s,posOf s o.2.2,la,inn)
theorem j2_f (s : ByteArray) (hs : s.size < 4294967281) (la inn : Int) (st : Int) (ps : List S83) (init : List Bool) (ins : List (List Bool)) (loop : Int) (T : List UInt8) (hT : T <:+ s.data.toList) (k : Nat) (hk : 2 ≤ k) :
    stim_reader_one.j2 k s (posOf s T) la inn st ps init ins loop = some (oneOut s la inn (pointRead st ps init ins loop T)):=by
  obtain ⟨k,rfl⟩ : ∃ j,k = j + 2:=⟨k - 2,by omega⟩
  unfold pointRead
  rw [stim_reader_one.j2]
  cases hc : nl T with
  | none =>
    rw [line_none hT hs _ _ hc]
    simp only [Option.bind_some,Bool.false_eq_true,if_false,stim_reader_one.j3,if_true,wrong_f]
    rfl
  | some x =>
    obtain ⟨l,r⟩:=x
    rw [line_some hT hs _ _ hc]
    simp only [Option.bind_some,if_true,bytes_toList,stim_reader_one.j3]
    by_cases hd : l = [46]
    · have : (l != [46]) = false:=by simp [hd]
      rw [this,if_pos hd,skip_f hT hs _ _ hc]
      simp only [Option.bind_some,Bool.false_eq_true,if_false]
      rfl
    · have : (l != [46]) = true:=by simp [hd]
      rw [this,if_neg hd,wrong_f]
      simp only [Option.bind_some,if_true]
      rfl
theorem one_f (s : ByteArray) (hs : s.size < 4294967281) (la inn : Int) (T : List UInt8) (hT : T <:+ s.data.toList) (k : Nat) (hk : 2 * T.length + 6 ≤ k) :
    stim_reader_one.f k s (posOf s T) la inn = some (oneOut s la inn (oneSpec la inn T)):=by
  have hl:=suffix_len hT
  obtain ⟨k,rfl⟩ : ∃ j,k = j + 2:=⟨k - 2,by omega⟩
  unfold stim_reader_one.f oneSpec
  cases hc : nl T with
  | none =>
    rw [line_none hT hs _ _ hc]
    simp only [Option.bind_some,Bool.false_eq_true,if_false,stim_reader_one.j0,if_true,wrong_f]
    rfl
  | some x =>
    obtain ⟨l,r⟩:=x
    have hlen:=nl_len hc
    rw [line_some hT hs _ _ hc]
    have good : ∀ (st : Int),((bt (bytesA l) 0 - 48) % 256 = st) → l.length = 1 → stim_reader_one.j0 (k + 2) (bytesA l) false s (posOf s T) la inn = some (oneOut s la inn (match nl r with
      | none => ((0,[],[],[],0),121,r)
      | some (l2,r2) => match propsRead l2 with
        | none => ((0,[],[],[],0),121,r)
        | some ps =>
          if st = 1 then
            (if (traceSpec la inn r2).2.2.2.1 = true then pointRead 1 ps (traceSpec la inn r2).1 (traceSpec la inn r2).2.1 (traceSpec la inn r2).2.2.1 (traceSpec la inn r2).2.2.2.2
            else ((0,[],[],[],0),3,(traceSpec la inn r2).2.2.2.2))
          else pointRead st ps [] [] 0 r2)):=by
      intro st hst h1
      rw [stim_reader_one.j0]
      simp only [Bool.false_eq_true,if_false]
      rw [if_pos (by rw [bytes_size];omega),skip_f hT hs _ _ hc]
      simp only [Option.bind_some]
      have hTr:=nl_suffix hT hc
      cases hd : nl r with
      | none =>
        rw [line_none hTr hs _ _ hd]
        simp only [Option.bind_some]
        obtain ⟨ps,ok,hf,_⟩:=properties_f r (by omega)
        rw [hf]
        simp only [Option.bind_some,Bool.false_eq_true,if_false,stim_reader_one.j1,if_true,wrong_f]
        rfl
      | some y =>
        obtain ⟨l2,r2⟩:=y
        have hlen2:=nl_len hd
        rw [line_some hTr hs _ _ hd]
        simp only [Option.bind_some]
        obtain ⟨ps,ok,hf,hp⟩:=properties_f l2 (by omega)
        rw [hf,hp]
        simp only [Option.bind_some,if_true,stim_reader_one.j1]
        cases ok with
        | false =>
          simp only [Bool.not_false,if_true,wrong_f,Option.bind_some,Bool.false_eq_true,if_false]
          rfl
        | true =>
          have hT2:=nl_suffix hTr hd
          simp only [Bool.not_true,Bool.false_eq_true,if_false,if_true]
          rw [skip_f hTr hs _ _ hd,hst]
          simp only [Option.bind_some]
          by_cases h1 : st = 1
          · rw [if_pos h1,if_pos h1,trace_f s hs la inn r2 hT2 k (by omega)]
            simp only [Option.bind_some]
            by_cases ht : (traceSpec la inn r2).2.2.2.1 = true
            · rw [if_pos ht,if_pos ht,j2_f s hs la inn _ _ _ _ _ _ ((traceSpec_suffix la inn r2).trans hT2) k (by omega),h1]
            · rw [if_neg ht,if_neg ht,wrong_f]
              rfl
          · rw [if_neg h1,if_neg h1,j2_f s hs la inn _ _ _ _ _ _ hT2 k (by omega)]
    simp only [Option.bind_some,if_true,bytes_toList]
    unfold stRead
    by_cases h0 : l = [48]
    · rw [if_pos h0,if_pos h0,good 0 (by subst h0;decide) (by rw [h0];rfl)]
    · rw [if_neg h0,if_neg h0]
      by_cases h1 : l = [49]
      · rw [if_pos h1,if_pos h1,good 1 (by subst h1;decide) (by rw [h1];rfl)]
      · rw [if_neg h1,if_neg h1]
        by_cases h2 : l = [50]
        · have : (l != [50]) = false:=by simp [h2]
          rw [this,if_pos h2,good 2 (by subst h2;decide) (by rw [h2];rfl)]
        · have : (l != [50]) = true:=by simp [h2]
          rw [this,if_neg h2]
          simp only [stim_reader_one.j0,if_true,wrong_f,Option.bind_some]
          rfl
end Go.Proofs.YtojepjkpnponoaaDoor.Stim

