import Derived.Test.YtojepjkpnponoaaDoorFStim0
import Derived.MapKept
import Derived.Carry
import Derived.RangeFuncCalls
set_option linter.unusedVariables false
set_option linter.unusedSimpArgs false
namespace Go.Proofs.YtojepjkpnponoaaDoor.Stim
open Go Go.RowKit Go.MapKept Go.Proofs.YtojepjkpnponoaaDoorW.PrintWords Go.Proofs.YtojepjkpnponoaaDoorW.PrintLast Go.Proofs.YtojepjkpnponoaaDoorW.PrintMore
def kv (p : S83) : Value:=.agg #[.int .u8 p.f0,.int .i64 p.f1]
def same83 (p q : S83) : Bool:=p.f0 == q.f0 && p.f1 == q.f1
def esL (l : List S83) : List MapEntry:=l.zipIdx.map fun x => { key:=kv x.1,val:=.int .i64 1,born:=x.2 }
def esOf (l : List S83) : Array MapEntry:=(esL l).toArray
theorem esL_snoc (l : List S83) (p : S83) : esL (l ++ [p]) = esL l ++ [{ key:=kv p,val:=.int .i64 1,born:=l.length }]:=by
  simp [esL,List.zipIdx_append]
theorem esOf_snoc (l : List S83) (p : S83) : esOf (l ++ [p]) = (esOf l).push { key:=kv p,val:=.int .i64 1,born:=l.length }:=by
  simp [esOf,esL_snoc]
theorem equal83 (p q : S83) (w : World) : (Op.equal 83 (kv p) (kv q)).run Tryd.prog w = .ok (same83 p q) w:=by
  refine eqA_of (d:=9999) Tryd.underlying83 (by kernel_rfl) ?_
  refine eqf_cons (a:=.int .u8 p.f0) (b:=.int .u8 q.f0) (r:=p.f0 == q.f0) (s:=p.f1 == q.f1) rfl ?_ ?_ ?_ ?_
  · kernel_rfl
  · kernel_rfl
  · exact run_equalIn_int _ _ _ _ _ _ _ Tryd.underlying5
  · refine eqf_last (a:=.int .i64 p.f1) (b:=.int .i64 q.f1) rfl ?_ ?_ ?_
    · kernel_rfl
    · kernel_rfl
    · exact run_equalIn_int _ _ _ _ _ _ _ Tryd.underlying3
theorem asking83 (p : S83) (w : World) : ∀ (l : List S83) (k i : Nat),((l.any (same83 p)) = false → (Instr.findAsking 83 (kv p) ((l.zipIdx k).map fun x => { key:=kv x.1,val:=.int .i64 1,born:=x.2 }) i).run Tryd.prog w = .ok none w) ∧
    ((l.any (same83 p)) = true → ∃ j,(Instr.findAsking 83 (kv p) ((l.zipIdx k).map fun x => { key:=kv x.1,val:=.int .i64 1,born:=x.2 }) i).run Tryd.prog w = .ok (some (j,.int .i64 1)) w)
  | [],k,i => ⟨fun _ => by simp [Instr.findAsking],fun h => by simp at h⟩
  | q :: l,k,i => by
    have ih:=asking83 p w l (k + 1) (i + 1)
    simp only [List.zipIdx_cons,List.map_cons,Instr.findAsking,Sem.run_bind,equal83,Result.andThen_ok,List.any_cons]
    cases hs : same83 p q with
    | true => exact ⟨fun h => by simp at h,fun _ => ⟨i,by simp⟩⟩
    | false => simpa using ih
theorem findNow83 {fs : Array Field} (k : Value) (e : MapEntry) (l : List MapEntry) (i : Nat) : Instr.findNow (.struct fs) k (e :: l) i = none:=by
  simp [Instr.findNow,Instr.sameNow]
theorem find83_none (p : S83) (w : World) (l : List S83) (h : l.any (same83 p) = false) : (Instr.findKey 83 (kv p) (esL l)).run Tryd.prog w = .ok none w:=by
  unfold Instr.findKey
  simp only [Sem.run_bind,run_underlying Tryd.underlying83,Result.andThen_ok]
  cases l with
  | nil => simp [esL,Instr.findNow]
  | cons q l =>
    have:=(asking83 p w (q :: l) 0 0).1 h
    simp only [esL,List.zipIdx_cons,List.map_cons,findNow83] at this ⊢
    exact this
theorem find83_some (p : S83) (w : World) (l : List S83) (h : l.any (same83 p) = true) : ∃ j,(Instr.findKey 83 (kv p) (esL l)).run Tryd.prog w = .ok (some (j,.int .i64 1)) w:=by
  unfold Instr.findKey
  simp only [Sem.run_bind,run_underlying Tryd.underlying83,Result.andThen_ok]
  cases l with
  | nil => simp at h
  | cons q l =>
    have:=(asking83 p w (q :: l) 0 0).2 h
    simp only [esL,List.zipIdx_cons,List.map_cons,findNow83] at this ⊢
    exact this
theorem check83 (e : Bool) (p : S83) (w : World) : (Instr.checkKey e 10000 83 (kv p)).run Tryd.prog w = .ok () w:=by
  cases e <;> kernel_rfl
theorem zero3 (w : World) : (zeroValue 3).run Tryd.prog w = .ok (.int .i64 0) w:=by kernel_rfl
theorem under128 : Tryd.prog.underlying 128 = some (.map 83 3):=by kernel_rfl
theorem lookup83 (p : S83) (w : World) (b n : Nat) (l : List S83) (hb : w.heap[b]? = some (.map (esOf l) n)) : (Instr.lookup 128 (.map (some b)) (kv p) false).run Tryd.prog w = .ok (.int .i64 (if l.any (same83 p) then 1 else 0)) w:=by
  unfold Instr.lookup
  simp only [Sem.run_bind,run_underlying under128,Result.andThen_ok,MapKept.run_getObj_map hb,Sem.run_pure,check83]
  rw [show (esOf l).toList = esL l from rfl]
  cases h : l.any (same83 p) with
  | true =>
    obtain ⟨j,hj⟩:=find83_some p w l h
    simp [hj]
  | false => simp [find83_none p w l h,zero3]
theorem mapEntry83 (p : S83) (w : World) (b n : Nat) (l : List S83) (hn : n = l.length) (h : l.any (same83 p) = false) (hb : w.heap[b]? = some (.map (esOf l) n)) :
    (Instr.mapEntry 128 (.map (some b)) (kv p)).run Tryd.prog w = .ok (.tuple #[.int .i64 0,.int .i64 n]) (w.putObj b (.map ((esOf l).push { key:=kv p,val:=.int .i64 0,born:=n }) (n + 1))):=by
  unfold Instr.mapEntry
  simp only [Sem.run_bind,run_underlying under128,Result.andThen_ok,MapKept.run_getObj_map hb,Sem.run_pure,check83]
  rw [show (esOf l).toList = esL l from rfl]
  simp [find83_none p w l h,zero3,MapKept.run_setObj_map _ hb,World.putObj,goInt]
theorem findIdx83 (p : S83) (l : List S83) : ((esOf l).push { key:=kv p,val:=.int .i64 0,born:=l.length }).findIdx? (fun e => (e.born : Int) == (l.length : Int)) = some l.length:=by
  rw [Array.findIdx?_eq_some_iff_getElem]
  refine ⟨by simp [esOf,esL],by simp [esOf,esL],?_⟩
  intro j hj
  have : j < (esOf l).size:=by simpa [esOf,esL] using hj
  rw [Array.getElem_push_lt this]
  simp [esOf,esL]
  omega
theorem modify83 (p : S83) (l : List S83) : (((esOf l).push { key:=kv p,val:=.int .i64 0,born:=l.length }).modify l.length fun e => { e with val:=.int .i64 1 }) = esOf (l ++ [p]):=by
  rw [esOf_snoc]
  have hs : (esOf l).size = l.length:=by simp [esOf,esL]
  apply Array.ext
  · simp
  · intro i h1 h2
    rw [Array.getElem_modify,Array.getElem_push,Array.getElem_push]
    by_cases hi : l.length = i
    · subst hi
      simp [hs]
    · rw [if_neg hi]
      have hlt : i < (esOf l).size:=by simp [hs] at h2;omega
      simp only [hlt,dif_pos]
theorem entryStore83 (p : S83) (w : World) (b n : Nat) (l : List S83) (hn : n = l.length) (hb : w.heap[b]? = some (.map ((esOf l).push { key:=kv p,val:=.int .i64 0,born:=n }) (n + 1))) :
    (Instr.entryStore 128 (.map (some b)) (.int .i64 n) (.int .i64 1)).run Tryd.prog w = .ok () (w.putObj b (.map (esOf (l ++ [p])) (n + 1))):=by
  subst hn
  unfold Instr.entryStore
  simp only [Sem.run_bind,Result.andThen_ok,MapKept.run_getObj_map hb]
  simp only [asInt,asIntOf,Sem.run_bind,Sem.run_pure,Result.andThen_ok,findIdx83,modify83,Functor.map,go_sem]
  rw [MapKept.run_setObj_map _ hb]
  rfl
theorem asking83_skip (p : S83) (w : World) (rest : List MapEntry) : ∀ (l : List S83) (k i : Nat),(l.any (same83 p)) = false → (Instr.findAsking 83 (kv p) (((l.zipIdx k).map fun x => { key:=kv x.1,val:=.int .i64 1,born:=x.2 }) ++ rest) i).run Tryd.prog w = (Instr.findAsking 83 (kv p) rest (i + l.length)).run Tryd.prog w
  | [],_,_,_ => rfl
  | q :: l,k,i,h => by
    simp only [List.any_cons,Bool.or_eq_false_iff] at h
    have ih:=asking83_skip p w rest l (k + 1) (i + 1) h.2
    simp only [List.zipIdx_cons,List.map_cons,List.cons_append,Instr.findAsking,Sem.run_bind,equal83,Result.andThen_ok,h.1]
    simp only [List.length_cons]
    rw [show i + (l.length + 1) = i + 1 + l.length by omega]
    simpa using ih
theorem same83_self (p : S83) : same83 p p = true:=by simp [same83]
theorem lookup83_new (p : S83) (w : World) (b n c : Nat) (l : List S83) (h : l.any (same83 p) = false) (hb : w.heap[b]? = some (.map ((esOf l).push { key:=kv p,val:=.int .i64 0,born:=n }) c)) :
    (Instr.lookup 128 (.map (some b)) (kv p) false).run Tryd.prog w = .ok (.int .i64 0) w:=by
  have hk : (Instr.findKey 83 (kv p) ((esOf l).push { key:=kv p,val:=.int .i64 0,born:=n }).toList).run Tryd.prog w = .ok (some (l.length,.int .i64 0)) w:=by
    unfold Instr.findKey
    simp only [Sem.run_bind,run_underlying Tryd.underlying83,Result.andThen_ok,Array.toList_push]
    rw [show (esOf l).toList = esL l from rfl]
    have:=asking83_skip p w [{ key:=kv p,val:=.int .i64 0,born:=n }] l 0 0 h
    rw [show Instr.findNow _ (kv p) (esL l ++ [{ key:=kv p,val:=.int .i64 0,born:=n }]) 0 = none from by cases l <;> exact findNow83 _ _ _ _]
    refine Eq.trans this ?_
    simp [Instr.findAsking,equal83,same83_self]
  unfold Instr.lookup
  simp only [Sem.run_bind,run_underlying under128,Result.andThen_ok,MapKept.run_getObj_map hb,Sem.run_pure,check83,hk]
  simp
end Go.Proofs.YtojepjkpnponoaaDoor.Stim

