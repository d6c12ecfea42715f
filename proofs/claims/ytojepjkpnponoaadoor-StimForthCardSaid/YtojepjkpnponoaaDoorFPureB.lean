import Derived.Test.YtojepjkpnponoaaDoorFStim0
import Derived.Test.YtojepjkpnponoaaDoorFStim1
import Derived.Test.YtojepjkpnponoaaDoorFStim6
import Derived.Test.YtojepjkpnponoaaDoorFStim9
import Derived.Test.YtojepjkpnponoaaDoorFStim10
import Derived.Test.YtojepjkpnponoaaDoorFGV
import Derived.Test.YtojepjkpnponoaaDoorFGAll
import Derived.Test.YtojepjkpnponoaaDoorFGPrint
import Derived.Test.YtojepjkpnponoaaDoorFGRead
import Derived.Test.YtojepjkpnponoaaDoorFStim13
import Derived.Test.YtojepjkpnponoaaDoorFBacks
set_option linter.unusedSimpArgs false
namespace Go.Proofs.YtojepjkpnponoaaDoor.Stim
open Go Go.RowKit Go.Proofs.YtojepjkpnponoaaDoorW.PrintWords
set_option linter.unusedVariables false
theorem posOf_whole (s : ByteArray) : posOf s s.data.toList = 0:=by
 unfold posOf
 rw [size_list]
 omega
theorem posOf_nil (s : ByteArray) : posOf s [] = (s.size : Int):=by simp [posOf]
theorem posOf_lt {s : ByteArray} {T : List UInt8} (h : T <:+ s.data.toList) : (posOf s T < (s.size : Int) ↔ T ≠ []) ∧ 0 ≤ posOf s T ∧ posOf s T ≤ (s.size : Int):=by
 have:=suffix_len h
 unfold posOf
 refine ⟨⟨fun h e => ?_,fun h => ?_⟩,by omega,by omega⟩
 ·subst e
  simp at h
 ·cases T with
  |nil => exact absurd rfl h
  |cons a T => simp at *;omega
def nothing5 : Int × List S83 × List Bool × List (List Bool) × Int:=(0,[],[],[],0)
def readOut (s : ByteArray) (la inn : Int) : (Int × List S83 × List Bool × List (List Bool) × Int) × Int × Int :=
 if s.size > 262144 then (nothing5,0,2)
 else if 0 ≤ la ∧ la ≤ 16384 ∧ 0 ≤ inn ∧ inn ≤ 16384 then
  (if (oneSpec la inn s.data.toList).2.1 = 0 then (if (oneSpec la inn s.data.toList).2.2 = [] then ((oneSpec la inn s.data.toList).1,0,0) else (nothing5,posOf s (oneSpec la inn s.data.toList).2.2,3))
  else (nothing5,posOf s (oneSpec la inn s.data.toList).2.2,(oneSpec la inn s.data.toList).2.1))
 else (nothing5,0,1)
theorem read_f (s : ByteArray) (la inn : Int) : stim_Read.f s la inn = some ((readOut s la inn).1.1,(readOut s la inn).1.2.1,(readOut s la inn).1.2.2.1,(readOut s la inn).1.2.2.2.1,(readOut s la inn).1.2.2.2.2,(readOut s la inn).2.1,(readOut s la inn).2.2):=by
 unfold stim_Read.f readOut
 by_cases hs : s.size > 262144
 ·rw [if_pos hs,if_pos hs]
  rfl
 ·rw [if_neg hs,if_neg hs,sizedIs]
  simp only [Option.bind_some,decide_eq_false_iff_not]
  by_cases hz : 0 ≤ la ∧ la ≤ 16384 ∧ 0 ≤ inn ∧ inn ≤ 16384
  ·rw [if_neg (fun h => h hz),if_pos hz]
   have ho:=one_f s (by omega) la inn s.data.toList (List.suffix_refl _) (2 * s.size + 100) (by rw [size_list];omega)
   rw [posOf_whole] at ho
   rw [ho]
   simp only [Option.bind_some,oneOut]
   have hp:=posOf_lt (oneSpec_suffix la inn s.data.toList)
   by_cases hc : (oneSpec la inn s.data.toList).2.1 = 0
   ·rw [if_pos hc,if_pos ⟨rfl,hc⟩,if_pos hc]
    by_cases hn : (oneSpec la inn s.data.toList).2.2 = []
    ·rw [if_neg (fun h => hp.1.1 h hn),if_pos hn]
    ·rw [if_pos (hp.1.2 hn),if_neg hn]
     rfl
   ·rw [if_neg hc,if_neg (fun h => hc h.2),if_neg hc]
    rfl
  ·rw [if_pos hz,if_neg hz]
   rfl
theorem one_shorter {la inn : Int} (hz : 0 ≤ la ∧ la ≤ 16384 ∧ 0 ≤ inn ∧ inn ≤ 16384) {T : List UInt8} (h : (oneSpec la inn T).2.1 = 0) : (oneSpec la inn T).2.2.length < T.length:=by
 rcases ho : oneSpec la inn T with ⟨⟨st,ps,init,ins,loop⟩,c,R⟩
 rw [ho] at h
 simp only at h
 subst h
 obtain ⟨_,U,hT,hU,_⟩:=one_back hz ho
 rw [hT]
 simp only [List.length_append,hU,witBytes,List.length_cons]
 omega
theorem all_step {s : ByteArray} (hs : s.size ≤ 262144) (la inn : Int) {T : List UInt8} (hT : T <:+ s.data.toList) (hne : T ≠ []) (k : Nat) (out : List S28) (ho : out.length ≤ 16384) :
  allRun s la inn (k + 1) (posOf s T) out = if (oneSpec la inn T).2.1 = 0 then (if out.length = 16384 then some ([],posOf s T,2) else allRun s la inn k (posOf s (oneSpec la inn T).2.2) (out ++ [⟨(oneSpec la inn T).1.1,(oneSpec la inn T).1.2.1,⟨(oneSpec la inn T).1.2.2.1,(oneSpec la inn T).1.2.2.2.1,(oneSpec la inn T).1.2.2.2.2⟩⟩]))
  else some ([],posOf s (oneSpec la inn T).2.2,(oneSpec la inn T).2.1):=by
 have hl:=suffix_len hT
 rw [allRun,if_pos ((posOf_lt hT).1.2 hne),one_f s (by omega) la inn T hT _ (by omega)]
 simp only [Option.bind_some,oneOut]
 by_cases hc : (oneSpec la inn T).2.1 = 0
 ·rw [if_pos hc,if_pos ⟨rfl,hc⟩,if_pos ⟨trivial,trivial,trivial⟩,if_pos hc]
  by_cases h6 : out.length = 16384
  ·rw [if_pos h6,if_pos h6]
  ·rw [if_neg h6,if_neg h6,if_pos (by omega)]
 ·rw [if_neg hc,if_neg (fun h => hc h.2),if_neg hc]
theorem all_end {s : ByteArray} (la inn : Int) (k : Nat) (out : List S28) : allRun s la inn (k + 1) (posOf s []) out = some (out,0,0):=by
 rw [allRun,posOf_nil,if_neg (by omega)]
theorem all_total {s : ByteArray} (hs : s.size ≤ 262144) {la inn : Int} (hz : 0 ≤ la ∧ la ≤ 16384 ∧ 0 ≤ inn ∧ inn ≤ 16384) : ∀ (k : Nat) (T : List UInt8) (out : List S28),T <:+ s.data.toList → T.length < k → out.length ≤ 16384 → ∃ r,allRun s la inn k (posOf s T) out = some r:=by
 intro k
 induction k with
 |zero => intro T out _ h;omega
 |succ k ih =>
  intro T out hT hk ho
  by_cases hne : T = []
  ·subst hne
   exact ⟨_,all_end la inn k out⟩
  ·rw [all_step hs la inn hT hne k out ho]
   by_cases hc : (oneSpec la inn T).2.1 = 0
   ·rw [if_pos hc]
    by_cases h6 : out.length = 16384
    ·rw [if_pos h6]
     exact ⟨_,rfl⟩
    ·rw [if_neg h6]
     have:=one_shorter hz hc
     exact ih _ _ ((oneSpec_suffix la inn T).trans hT) (by omega) (by simp;omega)
   ·rw [if_neg hc]
    exact ⟨_,rfl⟩
theorem all_some (s : ByteArray) (la inn : Int) : ∃ r,stim_All.f s la inn = some r:=by
 unfold stim_All.f
 by_cases hs : s.size > 262144
 ·rw [if_pos hs]
  exact ⟨_,rfl⟩
 ·rw [if_neg hs,sizedIs]
  simp only [Option.bind_some,decide_eq_false_iff_not]
  by_cases hz : 0 ≤ la ∧ la ≤ 16384 ∧ 0 ≤ inn ∧ inn ≤ 16384
  ·rw [if_neg (fun h => h hz)]
   have:=all_total (s:=s) (by omega) hz (s.size + 2) s.data.toList [] (List.suffix_refl _) (by rw [size_list];omega) (by simp)
   rwa [posOf_whole] at this
  ·rw [if_pos hz]
   exact ⟨_,rfl⟩
def s28 (x : Int × List S83 × List Bool × List (List Bool) × Int) : S28:=⟨x.1,x.2.1,⟨x.2.2.1,x.2.2.2.1,x.2.2.2.2⟩⟩
theorem all_two {s : ByteArray} (hs : s.size ≤ 262144) {la inn : Int} (hz : 0 ≤ la ∧ la ≤ 16384 ∧ 0 ≤ inn ∧ inn ≤ 16384) {T : List UInt8} (hne : s.data.toList ≠ []) (hneT : T ≠ []) {x y : Int × List S83 × List Bool × List (List Bool) × Int} (h : oneSpec la inn s.data.toList = (x,0,T)) (h2 : oneSpec la inn T = (y,0,[])) :
  stim_All.f s la inn = some ([s28 x,s28 y],0,0):=by
 have hT : T <:+ s.data.toList:=by
  have:=oneSpec_suffix la inn s.data.toList
  rwa [h] at this
 unfold stim_All.f
 rw [if_neg (by omega),sizedIs]
 simp only [Option.bind_some,decide_eq_false_iff_not]
 rw [if_neg (fun h => h hz)]
 have a1:=all_step hs la inn (List.suffix_refl _) hne (s.size + 1) [] (by simp)
 rw [posOf_whole,h] at a1
 simp only [if_true,List.length_nil,List.nil_append] at a1
 have a2:=all_step hs la inn hT hneT s.size [s28 x] (by simp)
 rw [h2] at a2
 simp only [if_true,List.length_cons,List.length_nil,List.cons_append,List.nil_append] at a2
 rw [a1,if_neg (by decide)]
 have hp : 0 < s.size:=by
  rw [← size_list]
  exact List.length_pos_iff.2 hne
 obtain ⟨n,hn⟩ : ∃ n,s.size = n + 1:=⟨s.size - 1,by omega⟩
 refine a2.trans ?_
 rw [if_neg (by decide),hn,all_end]
 rfl
theorem bytes_nil (l : List UInt8) : (⟨l.toArray⟩ : ByteArray).data.toList = l:=by simp
theorem arr_size (l : List UInt8) : (⟨l.toArray⟩ : ByteArray).size = l.length:=by rw [← size_list]
theorem wit_ne (st : Int) (ps : List S83) (init : List Bool) (ins : List (List Bool)) (loop : Int) : witBytes st ps init ins loop ≠ []:=by
 intro h
 have:=congrArg List.length h
 simp [witBytes] at this
theorem checkSpec_small {st : Int} {ps : List S83} {init : List Bool} {ins : List (List Bool)} {loop la inn : Int} (h : checkSpec st ps init ins loop la inn = 0) : ps.length < 140737488355328 ∧ init.length < 140737488355328 ∧ ins.length < 140737488355328 ∧ ∀ r ∈ ins,r.length < 140737488355328:=by
 obtain ⟨hz,_,_,hp,ht⟩:=checkSpec_zero h
 have:=(propsSpec_fits hp).2.1
 rcases ht with ⟨_,ht⟩|⟨_,rfl,rfl,_⟩
 ·obtain ⟨t1,t2,t3,t4,t5,t6⟩:=traceOK_open.1 ht
  exact ⟨by omega,by omega,by omega,fun r hr => by have:=t6 r hr;omega⟩
 ·exact ⟨by omega,by simp,by simp,by simp⟩
theorem bt_list (s : ByteArray) (i : Nat) (h : i < s.size) : bt s (i : Int) = (s.data.toList[i]'(by rw [size_list];exact h)).toNat:=by
 unfold bt
 rw [dif_pos (by simpa using h)]
 rfl
theorem eq_of_list {s t : ByteArray} (h : s.data.toList = t.data.toList) : s = t:=by
 cases s
 cases t
 simp only at h
 congr 1
 exact Array.toList_inj.1 h
theorem forth_loop (s t : ByteArray) (hs : s.size ≤ 262144) (la inn st : Int) (ps : List S83) (init : List Bool) (ins : List (List Bool)) (loop : Int) (u : ByteArray) (hc : checkSpec st ps init ins loop la inn = 0) (hul : u.size = s.size) (hux : (120 : UInt8) ∉ s.data.toList → u = s)
  (hj : Ev (fun k => trestlelaw12_StimForth.j1 k s t false la inn st ps init ins loop) true) (m : Nat) : ∀ (i : Nat) (x : Bool),i + m = s.size → (x = true ∨ ∀ j (h : j < s.data.toList.length),j < i → s.data.toList[j] ≠ 120) →
  Ev (fun k => trestlelaw12_StimForth.l0 k s t u 0 x (i : Int) la inn st ps init ins loop) true:=by
 have hsm:=checkSpec_small hc
 induction m with
 |zero =>
  intro i x hi hx
  obtain ⟨K2,h2⟩:=check_ev st ps init ins loop la inn hsm.2.1 hsm.2.2.1
  obtain ⟨K3,h3⟩:=hj
  refine ⟨K2 + K3 + 1,fun k hk => ?_⟩
  obtain ⟨k,rfl⟩ : ∃ j,k = j + 1:=⟨k - 1,by omega⟩
  have h2:=h2 k (by omega)
  have h3:=h3 k (by omega)
  simp only at h2 h3 ⊢
  have hne : ((u.size : Int) != (s.size : Int)) = false:=by simp [hul]
  rw [trestlelaw12_StimForth.l0,if_neg (by omega),h2,hc]
  simp only [Option.bind_some,if_true,hne]
  cases x with
  |true => rw [if_pos rfl];exact h3
  |false =>
   have : u = s:=hux (fun hm => by
    obtain ⟨j,hj,he⟩:=List.getElem_of_mem hm
    rcases hx with hx|hx
    ·cases hx
    ·exact hx j hj (by rw [size_list] at hj;omega) he)
   rw [if_neg (by decide),this,if_pos rfl]
   exact h3
 |succ m ih =>
  intro i x hi hx
  refine Ev.succ (h:=fun k => trestlelaw12_StimForth.l0 k s t u 0 (if x = true then true else (bt s (i : Int) == 120)) ((i + 1 : Nat) : Int) la inn st ps init ins loop) (fun k => ?_) (ih (i + 1) _ (by omega) ?_)
  ·rw [trestlelaw12_StimForth.l0,if_pos (by omega),wrapN i (by omega)]
   cases x with
   |true => rw [if_pos rfl,if_pos rfl]
   |false => rw [if_neg (by decide),if_pos (by omega),if_neg (by decide)]
  ·cases x with
   |true => exact .inl (by simp)
   |false =>
    rw [if_neg (by decide)]
    by_cases h120 : (bt s (i : Int) == 120) = true
    ·exact .inl h120
    ·refine .inr fun j hj hji => ?_
     rcases hx with hx|hx
     ·cases hx
     ·by_cases hjj : j < i
      ·exact hx j hj hjj
      ·obtain rfl : j = i:=by omega
       intro he
       apply h120
       rw [bt_list s j (by rw [← size_list];exact hj),he]
       rfl
theorem stimForth_ev (s t : ByteArray) (la inn : Int) (hst : s.size + t.size ≤ 9223372036854775807) : Ev (fun k => trestlelaw12_StimForth.f k s t la inn) true:=by
 obtain ⟨K1,h1⟩:=works_ev
 by_cases hcode : (readOut s la inn).2.2 = 0
 ·
  have hrs:=hcode
  unfold readOut at hrs
  split at hrs
  ·cases hrs
  ·rename_i hsz
   split at hrs
   ·rename_i hz
    split at hrs
    ·rename_i hc0
     split at hrs
     ·rename_i hR
      rcases ho : oneSpec la inn s.data.toList with ⟨⟨st,ps,init,ins,loop⟩,c,R⟩
      rw [ho] at hc0 hR
      simp only at hc0 hR
      subst hc0 hR
      obtain ⟨hck,U,hU,hUl,hUx⟩:=one_back hz ho
      rw [List.append_nil] at hU
      have hsm:=checkSpec_small hck
      have hrd : readOut s la inn = ((st,ps,init,ins,loop),0,0):=by
       unfold readOut
       rw [if_neg hsz,if_pos hz,ho]
       simp
      have hwl : (witBytes st ps init ins loop).length = s.size:=by rw [← hUl,← hU,size_list]
      have hpr : stim_Print.f st ps init ins loop la inn = some (⟨(witBytes st ps init ins loop).toArray⟩,0):=by
       unfold stim_Print.f
       rw [if_pos ⟨hsm.1,hsm.2.1,hsm.2.2.1⟩,if_neg (fun h => h hck),if_pos (textOK_print (texts_fit _ _ _ _ _ _ _ hck)),if_neg (by omega)]
      have hux : (120 : UInt8) ∉ s.data.toList → (⟨(witBytes st ps init ins loop).toArray⟩ : ByteArray) = s:=fun hx => eq_of_list (by
       rw [bytes_nil,← hUx (by rw [← hU];exact hx),← hU])
      have hsne : s.data.toList ≠ []:=by
       intro he
       have:=congrArg List.length he
       rw [size_list,← hwl] at this
       exact wit_ne st ps init ins loop (List.eq_nil_of_length_eq_zero this)
      obtain ⟨rall,hall⟩:=all_some (s ++ t) la inn
      have hj : Ev (fun k => trestlelaw12_StimForth.j1 k s t false la inn st ps init ins loop) true:=by
       have hap : (s ++ t).size = s.size + t.size:=by rw [ByteArray.size_append]
       have hfin : ∀ (b : Bool),(b = false → Ev (fun k => trestlelaw12_StimForth.j2 k rall.1 false st ps init ins loop (readOut t la inn).1.1 (readOut t la inn).1.2.1 (readOut t la inn).1.2.2.1 (readOut t la inn).1.2.2.2.1 (readOut t la inn).1.2.2.2.2 rall.2.1 rall.2.2) true) → Ev (fun k => trestlelaw12_StimForth.j2 k rall.1 b st ps init ins loop (readOut t la inn).1.1 (readOut t la inn).1.2.1 (readOut t la inn).1.2.2.1 (readOut t la inn).1.2.2.2.1 (readOut t la inn).1.2.2.2.2 rall.2.1 rall.2.2) true:=by
        intro b hb
        cases b with
        |false => exact hb rfl
        |true => exact ⟨1,fun k hk => by
          obtain ⟨k,rfl⟩ : ∃ j,k = j + 1:=⟨k - 1,by omega⟩
          simp only [trestlelaw12_StimForth.j2,if_true]⟩
       by_cases hg : (!((readOut t la inn).2.1 == 0) || (!((readOut t la inn).2.2 == 0))) = true
       ·refine Ev.succ (fun k => ?_) (hfin true (fun h => by cases h))
        rw [trestlelaw12_StimForth.j1,if_neg (by decide),read_f]
        simp only [Option.bind_some]
        rw [if_pos hst,hall]
        simp only [Option.bind_some]
        rw [if_pos hg]
       ·refine Ev.succ (fun k => ?_) (hfin (decide ((wrap64 ((s.size : Int) + (t.size : Int))) > 262144)) (fun hb => ?_))
        ·rw [trestlelaw12_StimForth.j1,if_neg (by decide),read_f]
         simp only [Option.bind_some]
         rw [if_pos hst,hall]
         simp only [Option.bind_some]
         rw [if_neg hg]
        ·rw [wrapS (by omega) (by omega),decide_eq_false_iff_not] at hb
         have hrt : (readOut t la inn).2.2 = 0:=by
          simp only [Bool.or_eq_true,Bool.not_eq_true',beq_eq_false_iff_ne,not_or,Decidable.not_not] at hg
          exact hg.2
         unfold readOut at hrt
         split at hrt
         ·cases hrt
         ·rename_i htz
          split at hrt
          ·rename_i hc0
           split at hrt
           ·rename_i hR
            rcases ho2 : oneSpec la inn t.data.toList with ⟨⟨st2,ps2,init2,ins2,loop2⟩,c,R⟩
            rw [ho2] at hc0 hR
            simp only at hc0 hR
            subst hc0 hR
            obtain ⟨hck2,U2,hU2,hUl2,_⟩:=one_back hz ho2
            rw [List.append_nil] at hU2
            have hsm2:=checkSpec_small hck2
            have hrd2 : readOut t la inn = ((st2,ps2,init2,ins2,loop2),0,0):=by
             unfold readOut
             rw [if_neg htz,if_pos hz,ho2]
             simp
            have htne : t.data.toList ≠ []:=by
             intro he
             have:=congrArg List.length he
             rw [hU2,hUl2] at this
             exact wit_ne st2 ps2 init2 ins2 loop2 (List.eq_nil_of_length_eq_zero this)
            have hdata : (s ++ t).data.toList = s.data.toList ++ t.data.toList:=by rw [ByteArray.data_append,Array.toList_append]
            have h12:=one_more t.data.toList ho
            rw [List.nil_append] at h12
            have htwo:=all_two (s:=s ++ t) (by rw [hap];omega) hz (by rw [hdata];simp [hsne]) htne (by rw [hdata];exact h12) ho2
            rw [hall] at htwo
            injection htwo with htwo
            rw [htwo,hrd2]
            obtain ⟨K3,h3⟩:=same_ev st ps init ins loop hsm.1 hsm.2.1 hsm.2.2.1 hsm.2.2.2
            obtain ⟨K4,h4⟩:=same_ev st2 ps2 init2 ins2 loop2 hsm2.1 hsm2.2.1 hsm2.2.2.1 hsm2.2.2.2
            refine ⟨K3 + K4 + 1,fun k hk => ?_⟩
            obtain ⟨k,rfl⟩ : ∃ j,k = j + 1:=⟨k - 1,by omega⟩
            have h3:=h3 k (by omega)
            have h4:=h4 k (by omega)
            simp only at h3 h4 ⊢
            have e0 : rd_T28 [s28 (st,ps,init,ins,loop),s28 (st2,ps2,init2,ins2,loop2)] 0 = s28 (st,ps,init,ins,loop):=rfl
            have e1 : rd_T28 [s28 (st,ps,init,ins,loop),s28 (st2,ps2,init2,ins2,loop2)] 1 = s28 (st2,ps2,init2,ins2,loop2):=rfl
            simp only [trestlelaw12_StimForth.j2,Bool.false_eq_true,if_false,beq_self_eq_true,Bool.and_self,if_true]
            rw [e0,e1]
            simp only [s28,List.length_cons,List.length_nil]
            rw [if_pos (by decide),if_pos (by decide),h3]
            simp only [Option.bind_some,if_true]
            rw [if_pos (by decide),h4]
            rfl
           ·cases hrt
          ·exact absurd hrt (by assumption)
      have hl:=forth_loop s t (by omega) la inn st ps init ins loop ⟨(witBytes st ps init ins loop).toArray⟩ hck (by rw [arr_size,hwl]) hux hj s.size 0 false (by omega) (.inr fun j _ h => by omega)
      obtain ⟨K2,h2⟩:=hl
      refine ⟨K1 + K2,fun k hk => ?_⟩
      have h1:=h1 k (by omega)
      have h2:=h2 k (by omega)
      simp only at h1 h2
      show trestlelaw12_StimForth.f k s t la inn = some true
      unfold trestlelaw12_StimForth.f
      rw [h1]
      simp only [Option.bind_some,if_true]
      rw [read_f,hrd]
      simp only [Option.bind_some,beq_self_eq_true,Bool.not_true,Bool.or_self,Bool.false_eq_true,if_false]
      rw [hpr]
      simp only [Option.bind_some]
      exact h2
     ·cases hrs
    ·exact absurd hrs (by assumption)
   ·cases hrs
 ·
  refine ⟨K1,fun k hk => ?_⟩
  have h1:=h1 k hk
  simp only at h1
  have hp : (readOut s la inn).1 = nothing5 ∧ 0 ≤ (readOut s la inn).2.1 ∧ (readOut s la inn).2.1 ≤ (s.size : Int):=by
   have hq:=posOf_lt (oneSpec_suffix la inn s.data.toList)
   unfold readOut at hcode ⊢
   split
   ·exact ⟨rfl,Int.le_refl _,by simp only;omega⟩
   ·rename_i hsz
    rw [if_neg hsz] at hcode
    split
    ·rename_i hz
     rw [if_pos hz] at hcode
     split
     ·rename_i hc0
      rw [if_pos hc0] at hcode
      split
      ·rename_i hR
       rw [if_pos hR] at hcode
       exact absurd rfl hcode
      ·exact ⟨rfl,hq.2.1,hq.2.2⟩
     ·exact ⟨rfl,hq.2.1,hq.2.2⟩
    ·exact ⟨rfl,Int.le_refl _,by simp only;omega⟩
  show trestlelaw12_StimForth.f k s t la inn = some true
  unfold trestlelaw12_StimForth.f
  rw [h1]
  simp only [Option.bind_some,if_true]
  rw [read_f]
  simp only [Option.bind_some]
  rw [if_pos (by simp [hcode]),if_pos hp.2.1,if_pos hp.2.2,hp.1]
  rfl
end Go.Proofs.YtojepjkpnponoaaDoor.Stim

