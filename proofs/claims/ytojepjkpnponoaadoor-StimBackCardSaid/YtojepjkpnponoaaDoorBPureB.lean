import Derived.Test.YtojepjkpnponoaaDoorBStim12
import Derived.Test.YtojepjkpnponoaaDoorBStim0
import Derived.Test.YtojepjkpnponoaaDoorBStim1
import Derived.Test.YtojepjkpnponoaaDoorBStim6
import Derived.Test.YtojepjkpnponoaaDoorBStim9
import Derived.Test.YtojepjkpnponoaaDoorBStim10
import Derived.Test.YtojepjkpnponoaaDoorBGV
import Derived.Test.YtojepjkpnponoaaDoorBGAll
import Derived.Test.YtojepjkpnponoaaDoorBGPrint
import Derived.Test.YtojepjkpnponoaaDoorBGRead
import Derived.Test.YtojepjkpnponoaaDoorBBacks
set_option linter.unusedSimpArgs false
namespace Go.Proofs.YtojepjkpnponoaaDoor.Stim
open Go Go.RowKit Go.Proofs.YtojepjkpnponoaaDoorW.PrintWords
set_option linter.unusedVariables false
theorem posOf_whole (s : ByteArray) : posOf s s.data.toList = 0:=by
 unfold posOf
 rw [size_list]
 omega
theorem posOf_nil (s : ByteArray) : posOf s [] = (s.size : Int):=by simp [posOf]
theorem posOf_lt {s : ByteArray} {T : List UInt8} (h : T <:+ s.data.toList) : (posOf s T < (s.size : Int) ↔ T ≠ []) ∧ 0 ≤ posOf s T ∧ posOf s T ≤ (s.size : Int):=by
 have:=suffix_len h
 unfold posOf
 refine ⟨⟨fun h e => ?_,fun h => ?_⟩,by omega,by omega⟩
 ·subst e
  simp at h
 ·cases T with
  |nil => exact absurd rfl h
  |cons a T => simp at *;omega
def nothing5 : Int × List S83 × List Bool × List (List Bool) × Int:=(0,[],[],[],0)
def readOut (s : ByteArray) (la inn : Int) : (Int × List S83 × List Bool × List (List Bool) × Int) × Int × Int :=
 if s.size > 262144 then (nothing5,0,2)
 else if 0 ≤ la ∧ la ≤ 16384 ∧ 0 ≤ inn ∧ inn ≤ 16384 then
  (if (oneSpec la inn s.data.toList).2.1 = 0 then (if (oneSpec la inn s.data.toList).2.2 = [] then ((oneSpec la inn s.data.toList).1,0,0) else (nothing5,posOf s (oneSpec la inn s.data.toList).2.2,3))
  else (nothing5,posOf s (oneSpec la inn s.data.toList).2.2,(oneSpec la inn s.data.toList).2.1))
 else (nothing5,0,1)
theorem read_f (s : ByteArray) (la inn : Int) : stim_Read.f s la inn = some ((readOut s la inn).1.1,(readOut s la inn).1.2.1,(readOut s la inn).1.2.2.1,(readOut s la inn).1.2.2.2.1,(readOut s la inn).1.2.2.2.2,(readOut s la inn).2.1,(readOut s la inn).2.2):=by
 unfold stim_Read.f readOut
 by_cases hs : s.size > 262144
 ·rw [if_pos hs,if_pos hs]
  rfl
 ·rw [if_neg hs,if_neg hs,sizedIs]
  simp only [Option.bind_some,decide_eq_false_iff_not]
  by_cases hz : 0 ≤ la ∧ la ≤ 16384 ∧ 0 ≤ inn ∧ inn ≤ 16384
  ·rw [if_neg (fun h => h hz),if_pos hz]
   have ho:=one_f s (by omega) la inn s.data.toList (List.suffix_refl _) (2 * s.size + 100) (by rw [size_list];omega)
   rw [posOf_whole] at ho
   rw [ho]
   simp only [Option.bind_some,oneOut]
   have hp:=posOf_lt (oneSpec_suffix la inn s.data.toList)
   by_cases hc : (oneSpec la inn s.data.toList).2.1 = 0
   ·rw [if_pos hc,if_pos ⟨rfl,hc⟩,if_pos hc]
    by_cases hn : (oneSpec la inn s.data.toList).2.2 = []
    ·rw [if_neg (fun h => hp.1.1 h hn),if_pos hn]
    ·rw [if_pos (hp.1.2 hn),if_neg hn]
     rfl
   ·rw [if_neg hc,if_neg (fun h => hc h.2),if_neg hc]
    rfl
  ·rw [if_pos hz,if_neg hz]
   rfl
theorem all_step {s : ByteArray} (hs : s.size ≤ 262144) (la inn : Int) {T : List UInt8} (hT : T <:+ s.data.toList) (hne : T ≠ []) (k : Nat) (out : List S28) (ho : out.length ≤ 16384) :
  allRun s la inn (k + 1) (posOf s T) out = if (oneSpec la inn T).2.1 = 0 then (if out.length = 16384 then some ([],posOf s T,2) else allRun s la inn k (posOf s (oneSpec la inn T).2.2) (out ++ [⟨(oneSpec la inn T).1.1,(oneSpec la inn T).1.2.1,⟨(oneSpec la inn T).1.2.2.1,(oneSpec la inn T).1.2.2.2.1,(oneSpec la inn T).1.2.2.2.2⟩⟩]))
  else some ([],posOf s (oneSpec la inn T).2.2,(oneSpec la inn T).2.1):=by
 have hl:=suffix_len hT
 rw [allRun,if_pos ((posOf_lt hT).1.2 hne),one_f s (by omega) la inn T hT _ (by omega)]
 simp only [Option.bind_some,oneOut]
 by_cases hc : (oneSpec la inn T).2.1 = 0
 ·rw [if_pos hc,if_pos ⟨rfl,hc⟩,if_pos ⟨trivial,trivial,trivial⟩,if_pos hc]
  by_cases h6 : out.length = 16384
  ·rw [if_pos h6,if_pos h6]
  ·rw [if_neg h6,if_neg h6,if_pos (by omega)]
 ·rw [if_neg hc,if_neg (fun h => hc h.2),if_neg hc]
theorem all_end {s : ByteArray} (la inn : Int) (k : Nat) (out : List S28) : allRun s la inn (k + 1) (posOf s []) out = some (out,0,0):=by
 rw [allRun,posOf_nil,if_neg (by omega)]
def s28 (x : Int × List S83 × List Bool × List (List Bool) × Int) : S28:=⟨x.1,x.2.1,⟨x.2.2.1,x.2.2.2.1,x.2.2.2.2⟩⟩
theorem all_one {s : ByteArray} (hs : s.size ≤ 262144) {la inn : Int} (hz : 0 ≤ la ∧ la ≤ 16384 ∧ 0 ≤ inn ∧ inn ≤ 16384) (hne : s.data.toList ≠ []) {x : Int × List S83 × List Bool × List (List Bool) × Int} (h : oneSpec la inn s.data.toList = (x,0,[])) :
  stim_All.f s la inn = some ([s28 x],0,0):=by
 unfold stim_All.f
 rw [if_neg (by omega),sizedIs]
 simp only [Option.bind_some,decide_eq_false_iff_not]
 rw [if_neg (fun h => h hz)]
 have:=all_step hs la inn (List.suffix_refl _) hne (s.size + 1) [] (by simp)
 rw [posOf_whole,h] at this
 simp only [if_true,List.length_nil,List.nil_append] at this
 rw [this,if_neg (by decide),all_end]
 rfl
theorem bytes_nil (l : List UInt8) : (⟨l.toArray⟩ : ByteArray).data.toList = l:=by simp
theorem arr_size (l : List UInt8) : (⟨l.toArray⟩ : ByteArray).size = l.length:=by rw [← size_list]
theorem wit_ne (st : Int) (ps : List S83) (init : List Bool) (ins : List (List Bool)) (loop : Int) : witBytes st ps init ins loop ≠ []:=by
 intro h
 have:=congrArg List.length h
 simp [witBytes] at this
theorem stimBack_ev (st : Int) (props : List S83) (init : List Bool) (ins : List (List Bool)) (loop : Int) (la inn : Int) (hp0 : props.length < 8796093022208) (hi : init.length < 140737488355328) (hn0 : ins.length < 5864062014805) (hr : ∀ r ∈ ins,r.length < 140737488355328) :
  Ev (fun k => trestlelaw12_StimBack.f k st props init ins loop la inn) true:=by
 have hp : props.length < 140737488355328:=by omega
 have hn : ins.length < 140737488355328:=by omega
 obtain ⟨K1,h1⟩:=works_ev
 obtain ⟨K2,h2⟩:=check_ev st props init ins loop la inn hi hn
 obtain ⟨K3,h3⟩:=same_ev st props init ins loop hp hi hn hr
 refine ⟨K1 + K2 + K3,fun k hk => ?_⟩
 have h1:=h1 k (by omega)
 have h2:=h2 k (by omega)
 have h3:=h3 k (by omega)
 simp only at h1 h2 h3
 have hbd : props.length < 140737488355328 ∧ init.length < 140737488355328 ∧ ins.length < 140737488355328:=⟨hp,hi,hn⟩
 show trestlelaw12_StimBack.f k st props init ins loop la inn = some true
 unfold trestlelaw12_StimBack.f
 rw [h1]
 simp only [Option.bind_some,if_true]
 rw [h2]
 simp only [Option.bind_some]
 have hpr : stim_Print.f st props init ins loop la inn = if checkSpec st props init ins loop la inn ≠ 0 then some (⟨#[]⟩,checkSpec st props init ins loop la inn) else if (witBytes st props init ins loop).length > 262144 then some (⟨#[]⟩,2) else some (⟨(witBytes st props init ins loop).toArray⟩,0):=by
  unfold stim_Print.f
  rw [if_pos hbd]
  by_cases hc : checkSpec st props init ins loop la inn = 0
  ·have hn' : ¬ (checkSpec st props init ins loop la inn ≠ 0):=fun h => h hc
   rw [if_neg hn',if_neg hn',if_pos (textOK_print (texts_fit _ _ _ _ _ _ _ hc))]
  ·rw [if_pos hc,if_pos hc]
 rw [hpr]
 by_cases hc : checkSpec st props init ins loop la inn = 0
 ·rw [if_neg (fun h => h hc),hc]
  by_cases hl : (witBytes st props init ins loop).length > 262144
  ·rw [if_pos hl]
   simp only [Option.bind_some]
   rw [if_neg (by decide),if_pos (by rw [ByteArray.toList_eq])]
   rfl
  ·rw [if_neg hl]
   have ho:=one_there st props init ins loop la inn [] hc
   rw [List.append_nil] at ho
   have hz:=(checkSpec_zero hc).1
   have hrd : readOut ⟨(witBytes st props init ins loop).toArray⟩ la inn = ((st,props,init,ins,loop),0,0):=by
    unfold readOut
    rw [arr_size,if_neg hl,if_pos hz,bytes_nil,ho]
    simp
   have hal : stim_All.f ⟨(witBytes st props init ins loop).toArray⟩ la inn = some ([s28 (st,props,init,ins,loop)],0,0):=all_one (by rw [arr_size];omega) hz (by rw [bytes_nil];exact wit_ne _ _ _ _ _) (by rw [bytes_nil];exact ho)
   simp only [Option.bind_some,if_true]
   rw [read_f,hrd,hal]
   simp only [Option.bind_some,beq_self_eq_true,Bool.and_self,if_true]
   rw [h3]
   simp only [Option.bind_some,if_true]
   have e0 : rd_T28 [s28 (st,props,init,ins,loop)] 0 = s28 (st,props,init,ins,loop):=rfl
   rw [e0]
   simp only [s28,List.length_cons,List.length_nil]
   rw [if_pos (by decide),if_pos (by decide),h3]
   rfl
 ·rw [if_pos hc]
  simp only [Option.bind_some]
  rw [if_neg hc,if_pos (by rw [ByteArray.toList_eq]),if_pos trivial]
end Go.Proofs.YtojepjkpnponoaaDoor.Stim

