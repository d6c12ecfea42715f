import Derived.Test.YtojepjkpnponoaaDoorKStim0
import Derived.Test.YtojepjkpnponoaaDoorKBuild
import Derived.Test.YtojepjkpnponoaaDoorKMk
import Derived.Lib.FrozenHead2
import Derived.Lib.ConvBytes
set_option linter.unusedSimpArgs false
namespace Go.Proofs.YtojepjkpnponoaaDoor.Stim
open Go Go.RowKit Go.Proofs.YtojepjkpnponoaaDoorW.PrintWords Go.Proofs.YtojepjkpnponoaaDoorW.PrintLast Go.Proofs.YtojepjkpnponoaaDoorW.PrintMore
set_option linter.unusedVariables false
def OwnT (w : World) (base : Nat) (v : Value) (l : List UInt8) : Prop :=
 ∃ g cap cur fz,v = .slice (some ⟨g,0,none⟩) l.length cap ∧ base ≤ g ∧ w.heap[g]? = some (.cells cur 5 fz) ∧ (fz.2 = 0 ∨ cap ≤ fz.1) ∧ l.length ≤ cap ∧ cap ≤ maxLen ∧ cur.size = cap ∧ cur.toList.take l.length = Lib.byteCells l
theorem run_storeCells_atT (P : Program) (g o : Nat) (t : TypeId) (fz : Nat × Nat) : ∀ (vs : List Value) (i : Nat) (cur : Array Value) (w : World),w.heap[g]? = some (.cells cur t fz) → (fz.2 = 0 ∨ cur.size ≤ fz.1) → o + i + vs.length ≤ cur.size → (∀ v ∈ vs,v.oneCell' = true) →
  (storeCells ⟨g,o,none⟩ vs i).run P w = .ok () (w.setRow g (cur.toList.take (o + i) ++ vs ++ cur.toList.drop (o + i + vs.length)).toArray)
 |[],i,cur,w,hg,_,_,_ => by
  simp only [storeCells,List.append_nil,List.length_nil,Nat.add_zero,List.take_append_drop,Array.toArray_toList]
  rw [setRow_self w g cur t fz hg]
  rfl
 |v :: rest,i,cur,w,hg,hfz,hl,h1 => by
  have hi : o + i < cur.size:=by simp at hl;omega
  have hadd : (⟨g,o,none⟩ : Addr).add i = ⟨g,o + i,none⟩:=by unfold Addr.add;split <;> simp_all
  have hcell : w.cell? ⟨g,o + i,none⟩ = some cur[o + i]:=by simp [World.cell?,hg,hi]
  have hfro : w.frozen? ⟨g,o + i,none⟩ = false:=by
   obtain ⟨lo,hi'⟩:=fz
   simp only [World.frozen?,hg,Bool.and_eq_false_iff,decide_eq_false_iff_not]
   simp only at hfz
   omega
  have hst : (store ((⟨g,o,none⟩ : Addr).add i) v).run P w = .ok () (w.setRow g (cur.setIfInBounds (o + i) v)):=by
   rw [hadd,run_store P w _ v _ (h1 v (by simp)),hcell]
   simp [hfro,setCell_eq_setRow w g (o + i) cur t fz v hg]
  have ih:=run_storeCells_atT P g o t fz rest (i + 1) (cur.setIfInBounds (o + i) v) (w.setRow g (cur.setIfInBounds (o + i) v)) (setRow_heap w g cur _ t _ hg) (by simpa using hfz) (by simp at hl ⊢;omega) (fun x hx => h1 x (by simp [hx]))
  simp only [storeCells,Sem.run_bind,hst,Result.andThen_ok,ih,setRow_setRow]
  congr 3
  have e:=list_seg_step cur.toList (o + i) v rest (by simp at hl ⊢;omega)
  simpa [Array.toList_setIfInBounds,Nat.add_assoc] using e
theorem OwnT.cells {w : World} {base : Nat} {v : Value} {l : List UInt8} (h : OwnT w base v l) : ∃ g cap,v = .slice (some ⟨g,0,none⟩) l.length cap ∧ ∀ j u,(Lib.byteCells l)[j]? = some u → w.cell? ((⟨g,0,none⟩ : Addr).add j) = some u:=by
 obtain ⟨g,cap,cur,fz,rfl,_,hg,_,_,_,_,ht⟩:=h
 refine ⟨g,cap,rfl,fun j u hu => ?_⟩
 have hadd : (⟨g,0,none⟩ : Addr).add j = ⟨g,j,none⟩:=by unfold Addr.add;split <;> simp_all
 rw [hadd,cell_of_row w g j cur 5 fz hg]
 rw [← ht,List.getElem?_take] at hu
 split at hu
 ·simpa using hu
 ·cases hu
theorem OwnT.below {w w1 : World} {base : Nat} {v : Value} {l : List UInt8} (h : OwnT w base v l) (hb : Below w.heap.size w w1) : OwnT w1 base v l:=by
 obtain ⟨g,cap,cur,fz,rfl,hB,hg,r⟩:=h
 exact ⟨g,cap,cur,fz,rfl,hB,blk_below hg hb,r⟩
theorem OwnT.own {w : World} {base : Nat} {v : Value} {l : List UInt8} (h : OwnT w base v l) : ∀ k,v.ownBlock = some k → base ≤ k ∧ ∃ c fz,w.heap[k]? = some (.cells c 5 fz):=by
 obtain ⟨g,cap,cur,fz,rfl,hB,hg,r⟩:=h
 intro k hk
 simp [Value.ownBlock] at hk
 subst hk
 exact ⟨hB,cur,fz,hg⟩
theorem OwnT.appendS {w : World} {base : Nat} {v : Value} {l : List UInt8} (h : OwnT w base v l) (s : ByteArray) (ty : TypeId) (hl : l.length + s.size ≤ 140737488355328) (hbase : base ≤ w.heap.size) :
  ∃ v' w',(Builtin.append_ #[70,9] ty #[v,.string s]).run Tryd.prog w = .ok v' w' ∧ OwnT w' base v' (l ++ s.data.toList) ∧ w.grownBy w' v.ownBlock:=by
 obtain ⟨i,hi,hz0,hz1,hz2⟩:=info_parts info5
 have hlen : (Lib.byteCells l ++ Lib.strCells s).length = l.length + s.size:=by rw [List.length_append,byteCells_length,Lib.strCells_length]
 have hll : (l ++ s.data.toList).length = l.length + s.size:=by rw [List.length_append];congr 1
 have hcc : Lib.byteCells (l ++ s.data.toList) = Lib.byteCells l ++ Lib.strCells s:=by rw [strCells_eq,byteCells_append]
 have hcl:=h.cells
 obtain ⟨g,cap,cur,fz,rfl,hbg,hg,hfz,hnc,hcm,hcs,htake⟩:=h
 by_cases hroom : l.length + s.size ≤ cap
 ·have hf:=Lib.run_firstCells_string (P:=Tryd.prog) w 1 s
  have hst:=run_storeCells_atT Tryd.prog g l.length 5 fz (Lib.strCells s) 0 cur w hg (by rw [hcs];exact hfz) (by simp [Lib.strCells_length];omega) (Lib.strCells_oneCell s)
  simp only [Nat.add_zero,Lib.strCells_length] at hst
  have hr : (Builtin.append_ #[70,9] ty #[.slice (some ⟨g,0,none⟩) l.length cap,.string s]).run Tryd.prog w =
   .ok (.slice (some ⟨g,0,none⟩) (l.length + s.size) cap) (w.setRow g (cur.toList.take l.length ++ Lib.strCells s ++ cur.toList.drop (l.length + s.size)).toArray):=by
   simp [Builtin.append_,run_underlying Tryd.underlying70,run_underlying Tryd.underlying9,sizeOf,typeInfo,hi,hz1,Builtin.lenOf,hroom,hf,Addr.add_lit,hst]
  refine ⟨_,_,hr,⟨g,cap,_,fz,by rw [hll],hbg,setRow_heap w g cur _ 5 _ hg,hfz,by rw [hll];exact hroom,hcm,?_,?_⟩,⟨rfl,rfl,rfl,by simp,fun k _ hk => setRow_other w g k _ (fun e => hk (by simp [Value.ownBlock,e]))⟩⟩
  ·simp only [List.size_toArray,List.length_append,List.length_take,List.length_drop,Array.length_toList,Lib.strCells_length]
   omega
  ·rw [htake,hll,← hlen,hcc]
   exact List.take_left
 ·obtain ⟨g',cap',he,holds⟩:=hcl
  injection he with he _ _
  injection he with he
  injection he with he _ _
  subst he
  have hr:=Lib.run_append_grow_string (P:=Tryd.prog) w 70 9 ty 5 i (.int .u8 0) Tryd.underlying70 Tryd.underlying9 hi hz0 ⟨g,0,none⟩ l.length cap (Lib.byteCells l) (by rw [hz1,byteCells_length,Nat.mul_one]) holds s (by omega) (by omega) (by rw [hz2];exact growslice_fits (by omega) (by omega))
  have hge:=grownCap_ge w (l.length + s.size) cap 5
  have hcm2 : grownCap w (l.length + s.size) cap 5 ≤ maxLen:=grownCap_le_maxLen w (l.length + s.size) cap 5 (by simp only [maxLen];omega)
  refine ⟨_,_,hr,⟨w.heap.size,_,_,(0,0),by rw [hll],hbase,heap_alloc_new w.drew _,.inl rfl,by rw [hll];exact hge,hcm2,?_,?_⟩,⟨rfl,rfl,rfl,by simp,fun k hk _ => Below.heap_alloc w.drew _ k hk⟩⟩
  ·have hz1 : (Value.int IntKind.u8 0).cells.size = 1:=rfl
   simp only [Array.size_append,List.size_toArray,size_zeroCells,hz1,byteCells_length,Lib.strCells_length]
   omega
  ·simp only [Array.toList_append,List.append_assoc]
   rw [← List.append_assoc,hll,← hlen,hcc]
   exact List.take_left
theorem OwnT.appendB {w : World} {base : Nat} {v : Value} {l : List UInt8} (h : OwnT w base v l) (k : Nat) (c : UInt8) (hk : w.cell? ⟨k,0,none⟩ = some (.int .u8 (c.toNat : Int))) (ty : TypeId) (hl : l.length + 1 ≤ 140737488355328) (hbase : base ≤ w.heap.size) :
  ∃ v' w',(Builtin.append_ #[70,70] ty #[v,.slice (some ⟨k,0,none⟩) 1 1]).run Tryd.prog w = .ok v' w' ∧ OwnT w' base v' (l ++ [c]) ∧ w.grownBy w' v.ownBlock:=by
 obtain ⟨i,hi,hz0,hz1,hz2⟩:=info_parts info5
 have hnews : ∀ j u,([Value.int .u8 (c.toNat : Int)] : List Value)[j]? = some u → w.cell? ((⟨k,0,none⟩ : Addr).add j) = some u:=by
  intro j u hu
  cases j with
  |zero =>
   simp at hu
   subst hu
   rw [Addr.add_zero']
   exact hk
  |succ j => simp at hu
 have hlen : (Lib.byteCells l ++ [Value.int .u8 (c.toNat : Int)]).length = l.length + 1:=by rw [List.length_append,byteCells_length];rfl
 have hll : (l ++ [c]).length = l.length + 1:=by simp
 have hcc : Lib.byteCells (l ++ [c]) = Lib.byteCells l ++ [Value.int .u8 (c.toNat : Int)]:=by rw [← byteCells_append];rfl
 have hcl:=h.cells
 obtain ⟨g,cap,cur,fz,rfl,hbg,hg,hfz,hnc,hcm,hcs,htake⟩:=h
 by_cases hroom : l.length + 1 ≤ cap
 ·have hf:=run_firstCells_some (P:=Tryd.prog) w i.size 1 ⟨k,0,none⟩ 1 1 [Value.int .u8 (c.toNat : Int)] (by rw [hz1];rfl) hnews
  have hst:=run_storeCells_atT Tryd.prog g l.length 5 fz [Value.int .u8 (c.toNat : Int)] 0 cur w hg (by rw [hcs];exact hfz) (by simp;omega) (by simp [Value.oneCell'])
  simp only [Nat.add_zero] at hst
  rw [hz1] at hf
  have hr : (Builtin.append_ #[70,70] ty #[.slice (some ⟨g,0,none⟩) l.length cap,.slice (some ⟨k,0,none⟩) 1 1]).run Tryd.prog w =
   .ok (.slice (some ⟨g,0,none⟩) (l.length + 1) cap) (w.setRow g (cur.toList.take l.length ++ [Value.int .u8 (c.toNat : Int)] ++ cur.toList.drop (l.length + 1)).toArray):=by
   simp [Builtin.append_,run_underlying Tryd.underlying70,sizeOf,typeInfo,hi,hz1,Builtin.lenOf,hroom,hf,Addr.add_lit,hst]
  refine ⟨_,_,hr,⟨g,cap,_,fz,by rw [hll],hbg,setRow_heap w g cur _ 5 _ hg,hfz,by rw [hll];exact hroom,hcm,?_,?_⟩,⟨rfl,rfl,rfl,by simp,fun k _ hk => setRow_other w g k _ (fun e => hk (by simp [Value.ownBlock,e]))⟩⟩
  ·simp only [List.size_toArray,List.length_append,List.length_take,List.length_drop,Array.length_toList,List.length_cons,List.length_nil]
   omega
  ·rw [htake,hll,← hlen,hcc]
   exact List.take_left
 ·obtain ⟨g',cap',he,holds⟩:=hcl
  injection he with he _ _
  injection he with he
  injection he with he _ _
  subst he
  have hr:=run_append_grow (P:=Tryd.prog) w 70 ty 5 i (.int .u8 0) Tryd.underlying70 hi hz0 ⟨g,0,none⟩ l.length cap (Lib.byteCells l) (by rw [hz1,byteCells_length,Nat.mul_one]) holds ⟨k,0,none⟩ 1 1 [Value.int .u8 (c.toNat : Int)] (by rw [hz1];rfl) hnews (by omega) (by omega) (growslice_fits (by omega) (by rw [hz2];omega))
  have hge:=grownCap_ge w (l.length + 1) cap 5
  have hcm2 : grownCap w (l.length + 1) cap 5 ≤ maxLen:=grownCap_le_maxLen w (l.length + 1) cap 5 (by simp only [maxLen];omega)
  refine ⟨_,_,hr,⟨w.heap.size,_,_,(0,0),by rw [hll],hbase,heap_alloc_new w.drew _,.inl rfl,by rw [hll];exact hge,hcm2,?_,?_⟩,⟨rfl,rfl,rfl,by simp,fun k hk _ => Below.heap_alloc w.drew _ k hk⟩⟩
  ·have hz1 : (Value.int IntKind.u8 0).cells.size = 1:=rfl
   simp only [Array.size_append,List.size_toArray,size_zeroCells,hz1,byteCells_length,List.length_cons,List.length_nil]
   omega
  ·simp only [Array.toList_append,List.append_assoc]
   rw [← List.append_assoc,hll,← hlen,hcc]
   exact List.take_left
theorem OwnT.conv (w : World) (base : Nat) (hbase : base ≤ w.heap.size) (s : ByteArray) (hs : s.size ≤ 140737488355328) :
  ∃ v' w',(convert 9 70 (.string s)).run Tryd.prog w = .ok v' w' ∧ OwnT w' base v' s.data.toList ∧ Below w.heap.size w w':=by
 have hr:=Lib.run_convert_string_bytes (P:=Tryd.prog) w 9 70 5 s Tryd.underlying9 Tryd.underlying70 Tryd.underlying5
 have hge:=grownCap_ge w s.size 0 5
 have hcm2 : grownCap w s.size 0 5 ≤ maxLen:=grownCap_le_maxLen w s.size 0 5 (by simp only [maxLen];omega)
 have hsz : (Lib.bytesCells w 5 s).size = grownCap w s.size 0 5:=by simp [Lib.bytesCells];omega
 refine ⟨_,_,hr,⟨w.heap.size,_,_,_,rfl,hbase,Lib.bytesWorld_at_new w 5 s,.inr (by rw [hsz];exact Nat.le_refl _),hge,hcm2,hsz,?_⟩,?_⟩
 ·have e1 : (Lib.bytesCells w 5 s).toList = Lib.byteCells s.data.toList ++ (Array.replicate (grownCap w s.size 0 5 - s.size) (Value.int .u8 0)).toList:=by simp [Lib.bytesCells,Lib.byteCells]
  have e2 : (Lib.byteCells s.data.toList).length = s.data.toList.length:=byteCells_length _
  rw [e1,← e2]
  exact List.take_left
 ·have hg : w.grownBy (Lib.bytesWorld w 5 s) none:=by
   refine ⟨?_,?_,?_,by rw [Lib.bytesWorld_size];omega,fun k hk _ => Lib.bytesWorld_at_old w 5 s k hk⟩ <;>
    (unfold Lib.bytesWorld World.freeze;split <;> rfl)
  exact (Below.refl _ _).grown hg (Nat.le_refl _) (fun k e => by cases e)
end Go.Proofs.YtojepjkpnponoaaDoor.Stim

