import Derived.Test.YtifigmamaakigaaDoorBV4
import Derived.MapKept
import Derived.Carry
import Derived.Maps.RangeRun
import Derived.RangeFuncCalls
namespace Go.Proofs.YtifigmamaakigaaDoor.V
open Go Go.RowKit Go.MapKept Go.Proofs.YtifigmamaakigaaDoorW.PrintWords Go.Proofs.YtifigmamaakigaaDoorW.PrintLast Go.Proofs.YtifigmamaakigaaDoorW.PrintMore
set_option linter.unusedVariables false
set_option linter.unusedSimpArgs false
def kvR (p : RW) : Value:=.agg #[.int .u8 p.f0,.int .i64 p.f1]
def sameK (p q : RW) : Bool:=p.f0 == q.f0 && p.f1 == q.f1
theorem sameK_iff {p q : RW} : sameK p q = true ↔ q.key = p.key:=by
  unfold sameK RW.key
  simp [Prod.ext_iff]
  constructor <;> (rintro ⟨h1,h2⟩;exact ⟨h1.symm,h2.symm⟩)
theorem kvR_key {p q : RW} (h : q.key = p.key) : kvR q = kvR p:=by
  injection h with h1 h2
  unfold kvR
  rw [h1,h2]
def eR (x : RW × Nat) : MapEntry:={ key:=kvR x.1,val:=rowV x.1,born:=x.2 }
def esL (l : List RW) : List MapEntry:=l.zipIdx.map eR
def esOf (l : List RW) : Array MapEntry:=(esL l).toArray
theorem esOf_snoc (l : List RW) (p : RW) : esOf (l ++ [p]) = (esOf l).push { key:=kvR p,val:=rowV p,born:=l.length }:=by
  simp [esOf,esL,List.zipIdx_append,eR]
theorem equal29 (p q : RW) (w : World) : (Op.equal 29 (kvR p) (kvR q)).run Tryd.prog w = .ok (sameK p q) w:=by
  refine eqA_of (d:=9999) Tryd.underlying29 (by kernel_rfl) ?_
  refine eqf_cons (a:=.int .u8 p.f0) (b:=.int .u8 q.f0) (r:=p.f0 == q.f0) (s:=p.f1 == q.f1) rfl ?_ ?_ ?_ ?_
  · kernel_rfl
  · kernel_rfl
  · exact run_equalIn_int _ _ _ _ _ _ _ Tryd.underlying5
  · refine eqf_last (a:=.int .i64 p.f1) (b:=.int .i64 q.f1) rfl ?_ ?_ ?_
    · kernel_rfl
    · kernel_rfl
    · exact run_equalIn_int _ _ _ _ _ _ _ Tryd.underlying3
theorem asking29 (p : RW) (w : World) : ∀ (l : List RW) (k i : Nat),match find p.key l with
    | none => (Instr.findAsking 29 (kvR p) ((l.zipIdx k).map eR) i).run Tryd.prog w = .ok none w
    | some b => ∃ j,(Instr.findAsking 29 (kvR p) ((l.zipIdx k).map eR) i).run Tryd.prog w = .ok (some (i + j,rowV b)) w ∧ l[j]? = some b ∧ replE l p = l.set j p
  | [],k,i => by simp [Instr.findAsking,find]
  | q :: l,k,i => by
    have ih:=asking29 p w l (k + 1) (i + 1)
    simp only [List.zipIdx_cons,List.map_cons,Instr.findAsking,Sem.run_bind,eR,equal29,Result.andThen_ok]
    rw [find_cons]
    by_cases h : q.key = p.key
    · rw [if_pos h]
      have hs:=sameK_iff.2 h
      exact ⟨0,by simp [hs],rfl,by rw [replE,if_pos h];rfl⟩
    · rw [if_neg h]
      have hs : sameK p q = false:=by
        cases hq : sameK p q with
        | false => rfl
        | true => exact absurd (sameK_iff.1 hq) h
      rw [hs]
      cases hf : find p.key l with
      | none => rw [hf] at ih;simpa using ih
      | some b =>
        rw [hf] at ih
        obtain ⟨j,h1,h2,h3⟩:=ih
        refine ⟨j + 1,?_,by simpa using h2,by rw [replE,if_neg h,h3];rfl⟩
        simp only [Bool.false_eq_true,if_false]
        rw [show i + (j + 1) = i + 1 + j by omega]
        exact h1
theorem findNow29 {fs : Array Field} (k : Value) (e : MapEntry) (l : List MapEntry) (i : Nat) : Instr.findNow (.struct fs) k (e :: l) i = none:=by
  simp [Instr.findNow,Instr.sameNow]
theorem find29 (p : RW) (w : World) (l : List RW) : match find p.key l with
    | none => (Instr.findKey 29 (kvR p) (esOf l).toList).run Tryd.prog w = .ok none w
    | some b => ∃ j,(Instr.findKey 29 (kvR p) (esOf l).toList).run Tryd.prog w = .ok (some (j,rowV b)) w ∧ l[j]? = some b ∧ replE l p = l.set j p:=by
  rw [show (esOf l).toList = esL l from rfl]
  unfold Instr.findKey
  simp only [Sem.run_bind,run_underlying Tryd.underlying29,Result.andThen_ok]
  cases l with
  | nil => simp [esL,Instr.findNow,find]
  | cons q l =>
    have h:=asking29 p w (q :: l) 0 0
    simp only [esL,List.zipIdx_cons,List.map_cons,findNow29] at h ⊢
    cases hf : find p.key (q :: l) with
    | none => rw [hf] at h;exact h
    | some b => rw [hf] at h;simpa using h
theorem check29 (e : Bool) (p : RW) (w : World) : (Instr.checkKey e 10000 29 (kvR p)).run Tryd.prog w = .ok () w:=by
  cases e <;> kernel_rfl
theorem zero31 (w : World) : (zeroValue 31).run Tryd.prog w = .ok (rowV zR) w:=by kernel_rfl
theorem under44 : Tryd.prog.underlying 44 = some (.map 29 31):=by kernel_rfl
theorem lookup44 (p : RW) (w : World) (b n : Nat) (l : List RW) (hb : w.heap[b]? = some (.map (esOf l) n)) : (Instr.lookup 44 (.map (some b)) (kvR p) true).run Tryd.prog w = .ok (.tuple #[rowV ((find p.key l).getD zR),.bool (find p.key l).isSome]) w:=by
  unfold Instr.lookup
  simp only [Sem.run_bind,run_underlying under44,Result.andThen_ok,MapKept.run_getObj_map hb,Sem.run_pure,check29]
  have h:=find29 p w l
  cases hf : find p.key l with
  | none =>
    rw [hf] at h
    simp [show (Instr.findKey 29 (kvR p) (esOf l).toList).run Tryd.prog w = .ok none w from h,zero31]
    rfl
  | some c =>
    rw [hf] at h
    obtain ⟨j,hj,_⟩:=h
    simp [hj]
theorem esOf_set (l : List RW) (j : Nat) (b p : RW) (hj : l[j]? = some b) (hk : b.key = p.key) : (esOf l).modify j (fun e => { e with key:=kvR p,val:=rowV p }) = esOf (l.set j p):=by
  have hs : (esOf l).size = l.length:=by simp [esOf,esL]
  apply Array.ext
  · simp [esOf,esL]
  · intro i h1 h2
    rw [Array.getElem_modify]
    by_cases hi : j = i
    · subst hi
      simp [esOf,esL,eR]
    · rw [if_neg hi]
      simp [esOf,esL,eR,List.getElem_set,hi]
theorem update44 (p : RW) (w : World) (b : Nat) (l : List RW) (hb : w.heap[b]? = some (.map (esOf l) l.length)) :
    (Instr.mapUpdate 44 (.map (some b)) (kvR p) (rowV p)).run Tryd.prog w = .ok () (w.putObj b (.map (esOf (if (find p.key l).isSome then replE l p else l ++ [p])) (if (find p.key l).isSome then replE l p else l ++ [p]).length)):=by
  unfold Instr.mapUpdate
  simp only [Sem.run_bind,run_underlying under44,Result.andThen_ok,MapKept.run_getObj_map hb,Sem.run_pure,check29]
  have h:=find29 p w l
  cases hf : find p.key l with
  | none =>
    rw [hf] at h
    simp only [show (Instr.findKey 29 (kvR p) (esOf l).toList).run Tryd.prog w = .ok none w from h,Result.andThen_ok]
    rw [MapKept.run_setObj_map _ hb]
    simp [World.putObj,esOf_snoc]
  | some c =>
    rw [hf] at h
    obtain ⟨j,hj,h2,h3⟩:=h
    have hk : c.key = p.key:=(find_key hf).1
    have hlt : j < l.length:=(List.getElem?_eq_some_iff.1 h2).1
    have he : ((esOf l)[j]?.map (·.key)).getD (kvR p) = kvR p:=by
      have : (esOf l)[j]? = some (eR (c,j)):=by
        simp [esOf,esL,List.getElem?_zipIdx,h2]
      rw [this]
      exact kvR_key hk
    have hst : (Instr.keyThatStays (kvR p) (kvR p)).run Tryd.prog w = .ok (kvR p) w:=by
      unfold Instr.keyThatStays
      rw [if_pos (by simp [kvR,Instr.sameBits])]
      rfl
    simp only [hj,Result.andThen_ok]
    rw [he]
    simp only [Sem.run_bind,hst,Result.andThen_ok]
    rw [MapKept.run_setObj_map _ hb,esOf_set l j c p h2 hk]
    simp [World.putObj,h3]
end Go.Proofs.YtifigmamaakigaaDoor.V

