import Derived.Test.YtojepjkpnponoaaDoorFStim0
import Derived.Test.YtojepjkpnponoaaDoorFBuild
import Derived.Test.YtojepjkpnponoaaDoorFMk
import Derived.Lib.FrozenHead2
import Derived.Lib.ConvBytes
set_option linter.unusedSimpArgs false
namespace Go.Proofs.YtojepjkpnponoaaDoor.Stim
open Go Go.RowKit Go.Proofs.YtojepjkpnponoaaDoorW.PrintWords Go.Proofs.YtojepjkpnponoaaDoorW.PrintLast Go.Proofs.YtojepjkpnponoaaDoorW.PrintMore
set_option linter.unusedVariables false
def OwnT (w : World) (base : Nat) (v : Value) (l : List UInt8) : Prop :=
 ∃ g cap cur fz,v = .slice (some ⟨g,0,none⟩) l.length cap ∧ base ≤ g ∧ w.heap[g]? = some (.cells cur 5 fz) ∧ (fz.2 = 0 ∨ cap ≤ fz.1) ∧ l.length ≤ cap ∧ cap ≤ maxLen ∧ cur.size = cap ∧ cur.toList.take l.length = Lib.byteCells l
theorem OwnT.cells {w : World} {base : Nat} {v : Value} {l : List UInt8} (h : OwnT w base v l) : ∃ g cap,v = .slice (some ⟨g,0,none⟩) l.length cap ∧ ∀ j u,(Lib.byteCells l)[j]? = some u → w.cell? ((⟨g,0,none⟩ : Addr).add j) = some u:=by
 obtain ⟨g,cap,cur,fz,rfl,_,hg,_,_,_,_,ht⟩:=h
 refine ⟨g,cap,rfl,fun j u hu => ?_⟩
 have hadd : (⟨g,0,none⟩ : Addr).add j = ⟨g,j,none⟩:=by unfold Addr.add;split <;> simp_all
 rw [hadd,cell_of_row w g j cur 5 fz hg]
 rw [← ht,List.getElem?_take] at hu
 split at hu
 ·simpa using hu
 ·cases hu
theorem OwnT.below {w w1 : World} {base : Nat} {v : Value} {l : List UInt8} (h : OwnT w base v l) (hb : Below w.heap.size w w1) : OwnT w1 base v l:=by
 obtain ⟨g,cap,cur,fz,rfl,hB,hg,r⟩:=h
 exact ⟨g,cap,cur,fz,rfl,hB,blk_below hg hb,r⟩
theorem OwnT.own {w : World} {base : Nat} {v : Value} {l : List UInt8} (h : OwnT w base v l) : ∀ k,v.ownBlock = some k → base ≤ k ∧ ∃ c fz,w.heap[k]? = some (.cells c 5 fz):=by
 obtain ⟨g,cap,cur,fz,rfl,hB,hg,r⟩:=h
 intro k hk
 simp [Value.ownBlock] at hk
 subst hk
 exact ⟨hB,cur,fz,hg⟩
theorem OwnT.conv (w : World) (base : Nat) (hbase : base ≤ w.heap.size) (s : ByteArray) (hs : s.size ≤ 140737488355328) :
  ∃ v' w',(convert 9 70 (.string s)).run Tryd.prog w = .ok v' w' ∧ OwnT w' base v' s.data.toList ∧ Below w.heap.size w w':=by
 have hr:=Lib.run_convert_string_bytes (P:=Tryd.prog) w 9 70 5 s Tryd.underlying9 Tryd.underlying70 Tryd.underlying5
 have hge:=grownCap_ge w s.size 0 5
 have hcm2 : grownCap w s.size 0 5 ≤ maxLen:=grownCap_le_maxLen w s.size 0 5 (by simp only [maxLen];omega)
 have hsz : (Lib.bytesCells w 5 s).size = grownCap w s.size 0 5:=by simp [Lib.bytesCells];omega
 refine ⟨_,_,hr,⟨w.heap.size,_,_,_,rfl,hbase,Lib.bytesWorld_at_new w 5 s,.inr (by rw [hsz];exact Nat.le_refl _),hge,hcm2,hsz,?_⟩,?_⟩
 ·have e1 : (Lib.bytesCells w 5 s).toList = Lib.byteCells s.data.toList ++ (Array.replicate (grownCap w s.size 0 5 - s.size) (Value.int .u8 0)).toList:=by simp [Lib.bytesCells,Lib.byteCells]
  have e2 : (Lib.byteCells s.data.toList).length = s.data.toList.length:=byteCells_length _
  rw [e1,← e2]
  exact List.take_left
 ·have hg : w.grownBy (Lib.bytesWorld w 5 s) none:=by
   refine ⟨?_,?_,?_,by rw [Lib.bytesWorld_size];omega,fun k hk _ => Lib.bytesWorld_at_old w 5 s k hk⟩ <;>
    (unfold Lib.bytesWorld World.freeze;split <;> rfl)
  exact (Below.refl _ _).grown hg (Nat.le_refl _) (fun k e => by cases e)
end Go.Proofs.YtojepjkpnponoaaDoor.Stim

