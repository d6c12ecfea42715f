import Derived.RangeFuncNested
import Derived.RangeFuncBound
import Derived.RangeFuncCalls
import Derived.RangeFuncLeaves
import Derived.Shelf.Abstract
import Derived.Shelf.RegionOpen
import Derived.WalkKit
import Derived.OwnWalkIn
import Derived.TacticsInMore
import Derived.LoopNIn
import Derived.LoopIn
import Derived.Test.YtojepjkpnponoaaDoorESeq
import Derived.Test.YtojepjkpnponoaaDoorEGV
import Derived.Test.YtojepjkpnponoaaDoorEFrags
set_option linter.unusedVariables false
set_option linter.unusedSimpArgs false
namespace Go.Proofs.YtojepjkpnponoaaDoor.Stim
open Go Go.RowKit Go.Shelf
attribute [local go_sem] Oper.semAt_some
def KpS (Bs Bp Bv : Nat) (W W' : World) : Prop:=W.heap.size ≤ W'.heap.size ∧ W'.heap[Bs]? = W.heap[Bs]? ∧ W'.heap[Bp]? = W.heap[Bp]? ∧ W'.heap[Bv]? = W.heap[Bv]?
theorem KpS.t {Bs Bp Bv : Nat} {A B C : World} (h : KpS Bs Bp Bv A B) (k : KpS Bs Bp Bv B C) : KpS Bs Bp Bv A C:=⟨Nat.le_trans h.1 k.1,k.2.1.trans h.2.1,k.2.2.1.trans h.2.2.1,k.2.2.2.trans h.2.2.2⟩
def leftS (Bs : Nat) (W : World) : Nat:=match W.cell? ⟨Bs,0,none⟩ with
  | some (.string r) => r.size
  | _ => 0
theorem leftS_eq {Bs : Nat} {W : World} {r : ByteArray} (h : Boxed W Bs 9 (.string r)) : leftS Bs W = r.size:=by
  unfold leftS
  rw [h.cell]
abbrev Wd:={ x : ByteArray // x.size ≤ 4294967281 }
def texts (l : List Wd) : List ByteArray:=l.map (·.1)
theorem texts_snoc (l : List Wd) (x : Wd) : texts (l ++ [x]) = texts l ++ [x.1]:=by simp [texts]
set_option maxRecDepth 100000 in
set_option maxHeartbeats 2000000 in
theorem splitSeq_stops (n : Nat) (hn : 3 ≤ n) (s : ByteArray) (hs : s.size ≤ 4294967281) (Bs Bp Bv : Nat) (w : World) (h1 : Boxed w Bs 9 (.string s)) (h2 : Boxed w Bp 9 (.string ⟨#[32]⟩)) (h3 : Boxed w Bv 3 (.int .i64 0)) (d1 : Bs ≠ Bp) (d2 : Bs ≠ Bv) :
    SeqStopsS Fence.wide n Tryd.prog 118 #[.pointer (some ⟨Bp,0,none⟩),.pointer (some ⟨Bs,0,none⟩),.pointer (some ⟨Bv,0,none⟩)] (fun x : Wd => #[.string x.1]) (KpS Bs Bp Bv) (fun xs => texts xs = fragsB s) (fun pre => texts pre <+: fragsB s) (fragsB s).length Bs w:=fun l J Jx W hW hJ hJx hst hY h0 => by
  have k1 : Boxed W Bs 9 (.string s):=(hW.block Bs h1.lt).trans h1
  have k2 : Boxed W Bp 9 (.string ⟨#[32]⟩):=(hW.block Bp h2.lt).trans h2
  have k3 : Boxed W Bv 3 (.int .i64 0):=(hW.block Bv h3.lt).trans h3
  clear h1 h2 h3 hW hJ hJx
  have c1:=k1.cell
  have c2:=k2.cell
  refine callsIn_of_wp Tryd.func118 rfl trivial ?_ rfl
  simp only [Tryd.ntmps118,List.size_toArray,List.length_cons,List.length_nil,Nat.reduceAdd,Nat.reduceSub,Array.replicate_succ,Array.replicate_zero,List.push_toArray,List.append_toArray,List.nil_append,List.cons_append]
  gi_wp2
  gi_loopw [7] (fun _ wr => ∃ (pre : List Wd) (r : ByteArray),fragsB s = texts pre ++ fragsB r ∧ r.size ≤ s.size ∧ Boxed wr Bs 9 (.string r) ∧ Boxed wr Bp 9 (.string ⟨#[32]⟩) ∧ Boxed wr Bv 3 (.int .i64 0) ∧ J pre wr)
    (fun _ wr => leftS Bs wr)
  case atStart => exact ⟨[],s,rfl,Nat.le_refl _,k1,k2,k3,h0⟩
  case round =>
    obtain ⟨pre,r,hfr,hrs,b1,b2,b3,hJr⟩:=hrel
    clear k1 k2 k3 h0 c1 c2
    have c1:=b1.cell
    have c2:=b2.cell
    have c3:=b3.cell
    have f1:=b1.frozen
    have hge:=Lib.indexByte_ge r.data.toList 32
    have hlt:=indexByte_lt r.data.toList 32
    rw [size_list] at hlt
    have hI:=callsIn_wide (n:=n - 1) |>.2 (Tryd.strings_Index_one r 32 wr)
    have HI:=Lib.hid hI
    clear hI
    by_cases hneg : Lib.indexByte r.data.toList 32 < 0
    · have hf1:=fragsB_none r hneg
      obtain ⟨fn,tmps,assign,body,hy,hR⟩:=hY pre ⟨r,by omega⟩ wr hJr (by rw [hfr,hf1];simp [texts])
      have HN:=Lib.hid hneg
      have hdec : decide (Lib.indexByte r.data.toList 32 < 0) = true:=decide_eq_true hneg
      have HF:=Lib.hid hf1
      have HFR:=Lib.hid hfr
      clear hlt hge hf1 hfr hY hst
      gi_wp2
      refine ⟨trivial,fun _ => by omega,?_⟩
      refine HI.out.mono ?_
      rintro e w' ⟨rfl,rfl⟩
      gi_wp2
      refine ⟨fun _ => by omega,hR.mono ?_⟩
      rintro e W3 (⟨rfl,hJ3,hk3⟩|⟨rfl,hJx3⟩)
      · gi_wp2
        go_end0
        exact ⟨⟨_,rfl⟩,.inl ⟨_,by rw [HFR.out,HF.out,texts_snoc],hJ3⟩⟩
      · gi_wp2
        go_end0
        exact ⟨⟨_,rfl⟩,.inr ⟨_,by rw [HFR.out,HF.out,texts_snoc];exact List.prefix_refl _,hJx3⟩⟩
    · obtain ⟨i,hi⟩ : ∃ i : Nat,Lib.indexByte r.data.toList 32 = i:=⟨(Lib.indexByte r.data.toList 32).toNat,by omega⟩
      have hf1:=fragsB_some r i hi
      obtain ⟨fn,tmps,assign,body,hy,hR⟩:=hY pre ⟨r.extract 0 i,by simp;omega⟩ wr hJr (by rw [hfr,hf1];simp [texts])
      rw [hi] at HI
      have hil : i < r.size:=by omega
      have HF:=Lib.hid hf1
      have HFR:=Lib.hid hfr
      have HY:=Lib.hid hst
      clear hlt hge hf1 hfr hY hst hi hneg
      gi_wp2
      refine ⟨trivial,fun _ => by omega,?_⟩
      refine HI.out.mono ?_
      rintro e w' ⟨rfl,rfl⟩
      gi_wp2
      refine ⟨fun _ => by omega,hR.mono ?_⟩
      rintro e W3 (⟨rfl,hJ3,hk3⟩|⟨rfl,hJx3⟩)
      · have q1 : Boxed W3 Bs 9 (.string r):=hk3.2.1.trans b1
        have q2 : Boxed W3 Bp 9 (.string ⟨#[32]⟩):=hk3.2.2.1.trans b2
        have q3 : Boxed W3 Bv 3 (.int .i64 0):=hk3.2.2.2.trans b3
        have x1:=q1.cell
        have x2:=q2.cell
        have x3:=q3.cell
        have g1:=q1.frozen
        gi_wp2
        go_roundw
        case rel =>
          exact ⟨pre ++ [⟨r.extract 0 i,by simp;omega⟩],r.extract (i + 1) r.size,by rw [HFR.out,HF.out,texts_snoc];simp,by simp;omega,q1.set _,q2.other (Ne.symm d1) _,q3.other (Ne.symm d2) _,HY.out _ _ _ hJ3⟩
        case measure =>
          rw [leftS_eq b1,leftS_eq (q1.set _)]
          simp
          omega
      · gi_wp2
        refine bodyPost_ret (results_none rfl _ _ _) rfl ?_
        exact ⟨⟨_,rfl⟩,.inr ⟨_,by rw [HFR.out,HF.out,texts_snoc];exact ⟨fragsB (r.extract (i + 1) r.size),by simp⟩,hJx3⟩⟩
set_option maxRecDepth 100000 in
theorem splitSeq_made (s p : ByteArray) (w : World) :
    Calls Tryd.prog 78 #[.string s,.string p] w fun e w' => e = .returned (.func (.func 118) #[] #[.pointer (some ⟨w.heap.size + 1,0,none⟩),.pointer (some ⟨w.heap.size,0,none⟩),.pointer (some ⟨w.heap.size + 2,0,none⟩)]) ∧
      w' = ((w.alloc (.cells #[.string s] 9)).alloc (.cells #[.string p] 9)).alloc (.cells #[.int .i64 0] 3):=by
  go_enter Tryd.func78,Tryd.ntmps78
  go_wp2
  go_ret
  exact ⟨rfl,rfl⟩
end Go.Proofs.YtojepjkpnponoaaDoor.Stim

