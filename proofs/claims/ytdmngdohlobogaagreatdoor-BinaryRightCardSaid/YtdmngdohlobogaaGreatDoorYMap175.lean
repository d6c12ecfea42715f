import Derived.Test.YtdmngdohlobogaaGreatDoorYAsc0
import Derived.MapKept
import Derived.Carry
import Derived.RangeFuncCalls
set_option linter.unusedVariables false
set_option linter.unusedSimpArgs false
namespace Go.Proofs.YtdmngdohlobogaaGreatDoor.Asc
open Go Go.RowKit Go.MapKept Go.Proofs.YtdmngdohlobogaaGreatDoorW.PrintWords Go.Proofs.YtdmngdohlobogaaGreatDoorW.PrintLast Go.Proofs.YtdmngdohlobogaaGreatDoorW.PrintMore
def kv (p : S40) : Value:=.agg #[.int .u8 p.f0,.int .i64 p.f1]
def same175 (p q : S40) : Bool:=p.f0 == q.f0 && p.f1 == q.f1
def esL (l : List S40) : List MapEntry:=l.zipIdx.map fun x => { key:=kv x.1,val:=.int .i64 1,born:=x.2 }
def esOf (l : List S40) : Array MapEntry:=(esL l).toArray
theorem esL_snoc (l : List S40) (p : S40) : esL (l ++ [p]) = esL l ++ [{ key:=kv p,val:=.int .i64 1,born:=l.length }]:=by
 simp [esL,List.zipIdx_append]
theorem esOf_snoc (l : List S40) (p : S40) : esOf (l ++ [p]) = (esOf l).push { key:=kv p,val:=.int .i64 1,born:=l.length }:=by
 simp [esOf,esL_snoc]
theorem equal175 (p q : S40) (w : World) : (Op.equal 159 (kv p) (kv q)).run Tryz.prog w = .ok (same175 p q) w:=by
 refine eqA_of (d:=9999) Tryz.underlying159 (by kernel_rfl) ?_
 refine eqf_cons (a:=.int .u8 p.f0) (b:=.int .u8 q.f0) (r:=p.f0 == q.f0) (s:=p.f1 == q.f1) rfl ?_ ?_ ?_ ?_
 ·kernel_rfl
 ·kernel_rfl
 ·exact run_equalIn_int _ _ _ _ _ _ _ Tryz.underlying5
 ·refine eqf_last (a:=.int .i64 p.f1) (b:=.int .i64 q.f1) rfl ?_ ?_ ?_
  ·kernel_rfl
  ·kernel_rfl
  ·exact run_equalIn_int _ _ _ _ _ _ _ Tryz.underlying3
theorem asking175 (p : S40) (w : World) : ∀ (l : List S40) (k i : Nat),((l.any (same175 p)) = false → (Instr.findAsking 159 (kv p) ((l.zipIdx k).map fun x => { key:=kv x.1,val:=.int .i64 1,born:=x.2 }) i).run Tryz.prog w = .ok none w) ∧
  ((l.any (same175 p)) = true → ∃ j,(Instr.findAsking 159 (kv p) ((l.zipIdx k).map fun x => { key:=kv x.1,val:=.int .i64 1,born:=x.2 }) i).run Tryz.prog w = .ok (some (j,.int .i64 1)) w)
 |[],k,i => ⟨fun _ => by simp [Instr.findAsking],fun h => by simp at h⟩
 |q :: l,k,i => by
  have ih:=asking175 p w l (k + 1) (i + 1)
  simp only [List.zipIdx_cons,List.map_cons,Instr.findAsking,Sem.run_bind,equal175,Result.andThen_ok,List.any_cons]
  cases hs : same175 p q with
  |true => exact ⟨fun h => by simp at h,fun _ => ⟨i,by simp⟩⟩
  |false => simpa using ih
theorem findNow175 {fs : Array Field} (k : Value) (e : MapEntry) (l : List MapEntry) (i : Nat) : Instr.findNow (.struct fs) k (e :: l) i = none:=by
 simp [Instr.findNow,Instr.sameNow]
theorem find175_none (p : S40) (w : World) (l : List S40) (h : l.any (same175 p) = false) : (Instr.findKey 159 (kv p) (esL l)).run Tryz.prog w = .ok none w:=by
 unfold Instr.findKey
 simp only [Sem.run_bind,run_underlying Tryz.underlying159,Result.andThen_ok]
 cases l with
 |nil => simp [esL,Instr.findNow]
 |cons q l =>
  have:=(asking175 p w (q :: l) 0 0).1 h
  simp only [esL,List.zipIdx_cons,List.map_cons,findNow175] at this ⊢
  exact this
theorem find175_some (p : S40) (w : World) (l : List S40) (h : l.any (same175 p) = true) : ∃ j,(Instr.findKey 159 (kv p) (esL l)).run Tryz.prog w = .ok (some (j,.int .i64 1)) w:=by
 unfold Instr.findKey
 simp only [Sem.run_bind,run_underlying Tryz.underlying159,Result.andThen_ok]
 cases l with
 |nil => simp at h
 |cons q l =>
  have:=(asking175 p w (q :: l) 0 0).2 h
  simp only [esL,List.zipIdx_cons,List.map_cons,findNow175] at this ⊢
  exact this
theorem check175 (e : Bool) (p : S40) (w : World) : (Instr.checkKey e 10000 159 (kv p)).run Tryz.prog w = .ok () w:=by
 cases e <;> kernel_rfl
theorem zero3 (w : World) : (zeroValue 3).run Tryz.prog w = .ok (.int .i64 0) w:=by kernel_rfl
theorem under172 : Tryz.prog.underlying 156 = some (.map 159 3):=by kernel_rfl
theorem lookup175 (p : S40) (w : World) (b n : Nat) (l : List S40) (hb : w.heap[b]? = some (.map (esOf l) n)) : (Instr.lookup 156 (.map (some b)) (kv p) false).run Tryz.prog w = .ok (.int .i64 (if l.any (same175 p) then 1 else 0)) w:=by
 unfold Instr.lookup
 simp only [Sem.run_bind,run_underlying under172,Result.andThen_ok,MapKept.run_getObj_map hb,Sem.run_pure,check175]
 rw [show (esOf l).toList = esL l from rfl]
 cases h : l.any (same175 p) with
 |true =>
  obtain ⟨j,hj⟩:=find175_some p w l h
  simp [hj]
 |false => simp [find175_none p w l h,zero3]
theorem mapEntry175 (p : S40) (w : World) (b n : Nat) (l : List S40) (hn : n = l.length) (h : l.any (same175 p) = false) (hb : w.heap[b]? = some (.map (esOf l) n)) :
  (Instr.mapEntry 156 (.map (some b)) (kv p)).run Tryz.prog w = .ok (.tuple #[.int .i64 0,.int .i64 n]) (w.putObj b (.map ((esOf l).push { key:=kv p,val:=.int .i64 0,born:=n }) (n + 1))):=by
 unfold Instr.mapEntry
 simp only [Sem.run_bind,run_underlying under172,Result.andThen_ok,MapKept.run_getObj_map hb,Sem.run_pure,check175]
 rw [show (esOf l).toList = esL l from rfl]
 simp [find175_none p w l h,zero3,MapKept.run_setObj_map _ hb,World.putObj,goInt]
theorem findIdx175 (p : S40) (l : List S40) : ((esOf l).push { key:=kv p,val:=.int .i64 0,born:=l.length }).findIdx? (fun e => (e.born : Int) == (l.length : Int)) = some l.length:=by
 rw [Array.findIdx?_eq_some_iff_getElem]
 refine ⟨by simp [esOf,esL],by simp [esOf,esL],?_⟩
 intro j hj
 have : j < (esOf l).size:=by simpa [esOf,esL] using hj
 rw [Array.getElem_push_lt this]
 simp [esOf,esL]
 omega
theorem modify175 (p : S40) (l : List S40) : (((esOf l).push { key:=kv p,val:=.int .i64 0,born:=l.length }).modify l.length fun e => { e with val:=.int .i64 1 }) = esOf (l ++ [p]):=by
 rw [esOf_snoc]
 have hs : (esOf l).size = l.length:=by simp [esOf,esL]
 apply Array.ext
 ·simp
 ·intro i h1 h2
  rw [Array.getElem_modify,Array.getElem_push,Array.getElem_push]
  by_cases hi : l.length = i
  ·subst hi
   simp [hs]
  ·rw [if_neg hi]
   have hlt : i < (esOf l).size:=by simp [hs] at h2;omega
   simp only [hlt,dif_pos]
theorem entryStore175 (p : S40) (w : World) (b n : Nat) (l : List S40) (hn : n = l.length) (hb : w.heap[b]? = some (.map ((esOf l).push { key:=kv p,val:=.int .i64 0,born:=n }) (n + 1))) :
  (Instr.entryStore 156 (.map (some b)) (.int .i64 n) (.int .i64 1)).run Tryz.prog w = .ok () (w.putObj b (.map (esOf (l ++ [p])) (n + 1))):=by
 subst hn
 unfold Instr.entryStore
 simp only [Sem.run_bind,Result.andThen_ok,MapKept.run_getObj_map hb]
 simp only [asInt,asIntOf,Sem.run_bind,Sem.run_pure,Result.andThen_ok,findIdx175,modify175,Functor.map,go_sem]
 rw [MapKept.run_setObj_map _ hb]
 rfl
theorem asking175_skip (p : S40) (w : World) (rest : List MapEntry) : ∀ (l : List S40) (k i : Nat),(l.any (same175 p)) = false → (Instr.findAsking 159 (kv p) (((l.zipIdx k).map fun x => { key:=kv x.1,val:=.int .i64 1,born:=x.2 }) ++ rest) i).run Tryz.prog w = (Instr.findAsking 159 (kv p) rest (i + l.length)).run Tryz.prog w
 |[],_,_,_ => rfl
 |q :: l,k,i,h => by
  simp only [List.any_cons,Bool.or_eq_false_iff] at h
  have ih:=asking175_skip p w rest l (k + 1) (i + 1) h.2
  simp only [List.zipIdx_cons,List.map_cons,List.cons_append,Instr.findAsking,Sem.run_bind,equal175,Result.andThen_ok,h.1]
  simp only [List.length_cons]
  rw [show i + (l.length + 1) = i + 1 + l.length by omega]
  simpa using ih
theorem same175_self (p : S40) : same175 p p = true:=by simp [same175]
theorem lookup175_new (p : S40) (w : World) (b n c : Nat) (l : List S40) (h : l.any (same175 p) = false) (hb : w.heap[b]? = some (.map ((esOf l).push { key:=kv p,val:=.int .i64 0,born:=n }) c)) :
  (Instr.lookup 156 (.map (some b)) (kv p) false).run Tryz.prog w = .ok (.int .i64 0) w:=by
 have hk : (Instr.findKey 159 (kv p) ((esOf l).push { key:=kv p,val:=.int .i64 0,born:=n }).toList).run Tryz.prog w = .ok (some (l.length,.int .i64 0)) w:=by
  unfold Instr.findKey
  simp only [Sem.run_bind,run_underlying Tryz.underlying159,Result.andThen_ok,Array.toList_push]
  rw [show (esOf l).toList = esL l from rfl]
  have:=asking175_skip p w [{ key:=kv p,val:=.int .i64 0,born:=n }] l 0 0 h
  rw [show Instr.findNow _ (kv p) (esL l ++ [{ key:=kv p,val:=.int .i64 0,born:=n }]) 0 = none from by cases l <;> exact findNow175 _ _ _ _]
  refine Eq.trans this ?_
  simp [Instr.findAsking,equal175,same175_self]
 unfold Instr.lookup
 simp only [Sem.run_bind,run_underlying under172,Result.andThen_ok,MapKept.run_getObj_map hb,Sem.run_pure,check175,hk]
 simp
end Go.Proofs.YtdmngdohlobogaaGreatDoor.Asc

