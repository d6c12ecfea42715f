import Derived.Lib.Strings
import Derived.Lib.Bytealg
set_option linter.unusedVariables false
set_option linter.unusedSimpArgs false
namespace Go.Proofs.YtojepjkpnponoaaDoor.Stim
open Go
def frags : List UInt8 → List (List UInt8)
  | [] => [[]]
  | c :: l => if c = 32 then [] :: frags l else match frags l with
    | f :: fs => (c :: f) :: fs
    | [] => [[c]]
theorem frags_none : ∀ (l : List UInt8),Lib.indexByte l 32 < 0 → frags l = [l]
  | [],_ => rfl
  | c :: l,h => by
    have hg:=Lib.indexByte_ge l 32
    unfold Lib.indexByte at h
    by_cases hc : c = 32
    · subst hc
      simp at h
    · have hc' : (c == 32) = false:=by simpa using hc
      rw [hc'] at h
      by_cases hm : Lib.indexByte l 32 = -1
      · have ih:=frags_none l (by omega)
        simp only [frags,if_neg hc,ih]
      · have hm' : (Lib.indexByte l 32 == -1) = false:=by simpa using hm
        rw [hm'] at h
        simp at h
        omega
theorem frags_some : ∀ (l : List UInt8) (i : Nat),Lib.indexByte l 32 = i → frags l = l.take i :: frags (l.drop (i + 1))
  | [],i,h => by
    unfold Lib.indexByte at h
    omega
  | c :: l,i,h => by
    unfold Lib.indexByte at h
    by_cases hc : c = 32
    · subst hc
      simp at h
      obtain rfl : i = 0:=by omega
      simp [frags]
    · have hc' : (c == 32) = false:=by simpa using hc
      rw [hc'] at h
      by_cases hm : Lib.indexByte l 32 = -1
      · rw [hm] at h
        simp at h
      · have hm' : (Lib.indexByte l 32 == -1) = false:=by simpa using hm
        rw [hm'] at h
        simp at h
        have hg:=Lib.indexByte_ge l 32
        obtain ⟨k,rfl⟩ : ∃ k,i = k + 1:=⟨i - 1,by omega⟩
        have ih:=frags_some l k (by omega)
        simp only [frags,if_neg hc,ih,List.take_succ_cons,List.drop_succ_cons]
theorem indexByte_lt : ∀ (l : List UInt8) (c : UInt8),Lib.indexByte l c < l.length ∨ Lib.indexByte l c = -1
  | [],c => by simp [Lib.indexByte]
  | b :: l,c => by
    have ih:=indexByte_lt l c
    unfold Lib.indexByte
    split
    · left;simp only [List.length_cons];omega
    · split
      · right;rfl
      · rename_i h1 h2
        simp at h2
        rcases ih with ih|ih
        · left;simp only [List.length_cons];omega
        · exact absurd ih h2
def bytesA (l : List UInt8) : ByteArray:=⟨l.toArray⟩
def fragsB (s : ByteArray) : List ByteArray:=(frags s.data.toList).map bytesA
theorem bytesA_data (s : ByteArray) : bytesA s.data.toList = s:=by
  unfold bytesA
  cases s
  simp
theorem extract_list (s : ByteArray) (a b : Nat) : (s.extract a b).data.toList = (s.data.toList.drop a).take (b - a):=by
  have:=Lib.extract_toList s a b
  rwa [Lib.toList_data] at this
theorem fragsB_none (s : ByteArray) (h : Lib.indexByte s.data.toList 32 < 0) : fragsB s = [s]:=by
  unfold fragsB
  rw [frags_none _ h]
  simp [bytesA_data]
theorem size_list (s : ByteArray) : s.data.toList.length = s.size:=by
  cases s
  rfl
theorem fragsB_some (s : ByteArray) (i : Nat) (h : Lib.indexByte s.data.toList 32 = i) : fragsB s = s.extract 0 i :: fragsB (s.extract (i + 1) s.size):=by
  have e1 : bytesA (s.data.toList.take i) = s.extract 0 i:=by
    rw [← bytesA_data (s.extract 0 i),extract_list,List.drop_zero,Nat.sub_zero]
  have e2 : (s.extract (i + 1) s.size).data.toList = s.data.toList.drop (i + 1):=by
    rw [extract_list,List.take_of_length_le]
    rw [List.length_drop,size_list]
    omega
  unfold fragsB
  rw [frags_some _ i h,e2,List.map_cons,e1]
end Go.Proofs.YtojepjkpnponoaaDoor.Stim

