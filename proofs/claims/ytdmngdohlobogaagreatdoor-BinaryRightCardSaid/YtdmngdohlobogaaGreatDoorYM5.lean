import Derived.Test.YtdmngdohlobogaaGreatDoorYAsc0
import Derived.Test.YtdmngdohlobogaaGreatDoorYAsc3
import Derived.Test.YtdmngdohlobogaaGreatDoorYGV
import Derived.Test.YtdmngdohlobogaaGreatDoorYM4
import Derived.Laws.Strings2
import Derived.RangeFuncFrom
import Derived.RangeFuncBox
import Derived.RangeFuncNested
import Derived.RangeFuncBound
import Derived.RangeFuncCalls
import Derived.RangeFuncLeaves
import Derived.Shelf.Abstract
import Derived.Shelf.RegionOpen
import Derived.WalkKit
import Derived.OwnWalkIn
import Derived.TacticsInMore
import Derived.LoopNIn
import Derived.LoopIn
section
namespace Go.Proofs.YtdmngdohlobogaaGreatDoor.Asc
open Go Go.RowKit Go.Proofs.YtdmngdohlobogaaGreatDoorW.PrintWords Go.Proofs.YtdmngdohlobogaaGreatDoorW.PrintLast Go.Proofs.YtdmngdohlobogaaGreatDoorW.PrintMore
set_option linter.unusedVariables false
theorem wp_normal' {P : Program} {c : Code} {Q : Exit → Act → World → Prop} {a : Act} {w : World} (h : c.wp P (fun e a w => e = .normal ∧ Q .normal a w) a w) : c.wp P Q a w :=
 Code.wp_mono (fun _ _ _ hq => by
  obtain ⟨rfl,hq⟩:=hq
  exact hq) h
structure CA where
 A1 : Option Addr
 A2 : Option Addr
 A3 : Option Addr
 A4 : Option Addr
 A5 : Option Addr
 A6 : Option Addr
 A7 : Option Addr
 A8 : Option Addr
 A9 : Option Addr
 A10 : Option Addr
 c1 : Nat
 c2 : Nat
 c3 : Nat
 c4 : Nat
 c5 : Nat
 c6 : Nat
 c7 : Nat
 c8 : Nat
 c9 : Nat
 c10 : Nat
def cellsC (c : S65) (a : CA) : Array Value:=#[.int .i64 c.f0,.slice a.A1 c.f1.length a.c1,.slice a.A2 c.f2.length a.c2,.slice a.A3 c.f3.length a.c3,.slice a.A4 c.f4.length a.c4,.slice a.A5 c.f5.length a.c5,.slice a.A6 c.f6.length a.c6,.slice a.A7 c.f7.length a.c7,.slice a.A8 c.f8.length a.c8,.slice a.A9 c.f9.length a.c9,.slice a.A10 c.f10.length a.c10]
structure CR (w : World) (c : S65) (a : CA) : Prop where
 r1 : Kd.C (Kd.int .i64) w a.A1 c.f1.length c.f1
 r2 : Kd.C k108 w a.A2 c.f2.length c.f2
 r3 : Kd.C (Kd.int .i64) w a.A3 c.f3.length c.f3
 r4 : Kd.C (Kd.int .i64) w a.A4 c.f4.length c.f4
 r5 : Kd.C (Kd.int .i64) w a.A5 c.f5.length c.f5
 r6 : Kd.C (Kd.slice 3 (Kd.int .i64)) w a.A6 c.f6.length c.f6
 r7 : Kd.C (Kd.int .i64) w a.A7 c.f7.length c.f7
 r8 : Kd.C k125 w a.A8 c.f8.length c.f8
 r9 : Kd.C k59 w a.A9 c.f9.length c.f9
 r10 : Kd.C Kd.string w a.A10 c.f10.length c.f10
theorem CR.below {w W : World} {c : S65} {a : CA} (h : CR w c a) (hb : Below w.heap.size w W) : CR W c a :=
 ⟨Kd.C_below h.r1 hb,Kd.C_below h.r2 hb,Kd.C_below h.r3 hb,Kd.C_below h.r4 hb,Kd.C_below h.r5 hb,Kd.C_below h.r6 hb,Kd.C_below h.r7 hb,Kd.C_below h.r8 hb,Kd.C_below h.r9 hb,Kd.C_below h.r10 hb⟩
def flatM (l : List S40) : List Value:=l.flatMap fun m => [.int .i64 m.f0,.int .i64 m.f1]
theorem flatM_length (l : List S40) : (flatM l).length = 2 * l.length:=by
 induction l with
 |nil => rfl
 |cons m l ih =>
  simp only [flatM,List.flatMap_cons,List.length_append,List.length_cons,List.length_nil] at ih ⊢
  omega
theorem flatM_cons (m : S40) (l : List S40) : flatM (m :: l) = .int .i64 m.f0 :: .int .i64 m.f1 :: flatM l:=by simp [flatM]
theorem flatM_get : ∀ (l : List S40) (i : Nat) (h : i < l.length),(flatM l)[i * 2]? = some (.int .i64 l[i].f0) ∧ (flatM l)[i * 2 + 1]? = some (.int .i64 l[i].f1)
 |m :: l,0,_ => by rw [flatM_cons];exact ⟨rfl,rfl⟩
 |m :: l,i + 1,h => by
  have:=flatM_get l i (by simpa using h)
  rw [flatM_cons,show (i + 1) * 2 = i * 2 + 2 by omega]
  simpa using this
theorem flatM_set : ∀ (l : List S40) (i : Nat) (m : S40),i < l.length → ((flatM l).set (i * 2) (.int .i64 m.f0)).set (i * 2 + 1) (.int .i64 m.f1) = flatM (l.set i m)
 |x :: l,0,m,_ => by rw [List.set_cons_zero,flatM_cons,flatM_cons];rfl
 |x :: l,i + 1,m,h => by
  have:=flatM_set l i m (by simpa using h)
  rw [List.set_cons_succ,flatM_cons,flatM_cons]
  rw [show (i + 1) * 2 = i * 2 + 2 by omega]
  exact congrArg (fun t => Value.int .i64 x.f0 :: Value.int .i64 x.f1 :: t) this
def ByAt (w : World) (b : Nat) (l : List S40) : Prop:=∃ cur,w.heap[b]? = some (.cells cur 154 (0,0)) ∧ flatM l <+: cur.toList
theorem prefix_get {α : Type} {l m : List α} (h : l <+: m) {i : Nat} {x : α} (hx : l[i]? = some x) : m[i]? = some x:=by
 obtain ⟨r,rfl⟩:=h
 rw [List.getElem?_append_left (List.getElem?_eq_some_iff.1 hx).1]
 exact hx
theorem ByAt.cells {w : World} {b : Nat} {l : List S40} (h : ByAt w b l) (i : Nat) (hi : i < l.length) : w.cell? ⟨b,i * 2,none⟩ = some (.int .i64 l[i].f0) ∧ w.cell? ⟨b,i * 2 + 1,none⟩ = some (.int .i64 l[i].f1):=by
 obtain ⟨cur,hc,hp⟩:=h
 obtain ⟨h0,h1⟩:=flatM_get l i hi
 have e0:=prefix_get hp h0
 have e1:=prefix_get hp h1
 rw [Array.getElem?_toList] at e0 e1
 exact ⟨(bC_ hc _).trans e0,(bC_ hc _).trans e1⟩
theorem ByAt.frozen {w : World} {b : Nat} {l : List S40} (h : ByAt w b l) (i : Nat) : w.frozen? ⟨b,i,none⟩ = false:=by
 obtain ⟨cur,hc,hp⟩:=h
 exact bF_ hc i
theorem ByAt.put {w : World} {b : Nat} {l : List S40} (h : ByAt w b l) (i : Nat) (hi : i < l.length) (m : S40) : ByAt ((w.setCell ⟨b,i * 2,none⟩ (.int .i64 m.f0)).setCell ⟨b,i * 2 + 1,none⟩ (.int .i64 m.f1)) b (l.set i m):=by
 obtain ⟨cur,hc,hp⟩:=h
 refine ⟨_,blk_put (blk_put hc (i * 2) _ rfl) (i * 2 + 1) _ rfl,?_⟩
 obtain ⟨r,hr⟩:=hp
 have hl:=flatM_length l
 refine ⟨r,?_⟩
 rw [Array.toList_setIfInBounds,Array.toList_setIfInBounds,← hr,List.set_append_left _ _ (by omega),List.set_append_left _ _ (by rw [List.length_set];omega),flatM_set l i m hi]
theorem ByAt.keep {w W : World} {b : Nat} {l : List S40} (h : ByAt w b l) (hb : W.heap[b]? = w.heap[b]?) : ByAt W b l:=by
 obtain ⟨cur,hc,hp⟩:=h
 exact ⟨cur,hb.trans hc,hp⟩
theorem ByAt.lt {w : World} {b : Nat} {l : List S40} (h : ByAt w b l) : b < w.heap.size:=by
 obtain ⟨cur,hc,hp⟩:=h
 exact (Array.getElem?_eq_some_iff.1 hc).1
def KB (w W : World) (b : Nat) : Prop:=w.heap.size ≤ W.heap.size ∧ ∀ k,k < w.heap.size → k ≠ b → W.heap[k]? = w.heap[k]?
theorem KB.refl (w : World) (b : Nat) : KB w w b:=⟨Nat.le_refl _,fun _ _ _ => rfl⟩
theorem KB.trans {w W V : World} {b : Nat} (h : KB w W b) (k : KB W V b) : KB w V b:=⟨Nat.le_trans h.1 k.1,fun i hi hb => (k.2 i (Nat.lt_of_lt_of_le hi h.1) hb).trans (h.2 i hi hb)⟩
theorem KB.of_below {w W V : World} {b : Nat} (h : KB w W b) (k : Below W.heap.size W V) : KB w V b:=h.trans ⟨k.size,fun i hi _ => k.block i hi⟩
theorem KB.alloc {w W : World} {b : Nat} (h : KB w W b) (o : Obj) : KB w (W.alloc o) b:=h.of_below (eA_ (Below.refl _ _) o)
theorem KB.drew {w W : World} {b : Nat} (h : KB w W b) : KB w W.drew b:=h.of_below (below_drew (Below.refl _ _))
theorem KB.set {w W : World} {b : Nat} (h : KB w W b) (j : Nat) (u : Value) : KB w (W.setCell ⟨b,j,none⟩ u) b:=⟨by rw [World.size_setCell];exact h.1,fun i hi hb => (Below.heap_setCell W ⟨b,j,none⟩ u i hb).trans (h.2 i hi hb)⟩
structure LK (w : World) (g b : Nat) (c : S65) (a : CA) (by_ : List S40) : Prop where
 blk : w.heap[g]? = some (.cells (cellsC c a ++ #[.slice (some ⟨b,0,none⟩) by_.length by_.length]) 127 (0,0))
 row : ByAt w b by_
theorem LK.ne {w : World} {g b : Nat} {c : S65} {a : CA} {by_ : List S40} (h : LK w g b c a by_) : g ≠ b:=by
 obtain ⟨h1,cur,h2,_⟩:=h
 rintro rfl
 rw [h1] at h2
 injection h2 with h2
 injection h2 with _ h2
 exact absurd h2 (by decide)
theorem LK.below {w W : World} {g b : Nat} {c : S65} {a : CA} {by_ : List S40} (h : LK w g b c a by_) (hb : Below w.heap.size w W) : LK W g b c a by_ :=
 ⟨(hb.block g (Array.getElem?_eq_some_iff.1 h.blk).1).trans h.blk,h.row.keep (hb.block b h.row.lt)⟩
theorem LK.cell {w : World} {g b : Nat} {c : S65} {a : CA} {by_ : List S40} (h : LK w g b c a by_) (i : Nat) : w.cell? ⟨g,i,none⟩ = (cellsC c a ++ #[.slice (some ⟨b,0,none⟩) by_.length by_.length])[i]?:=bC_ h.blk i
end Go.Proofs.YtdmngdohlobogaaGreatDoor.Asc
end
section
namespace Go.Proofs.YtdmngdohlobogaaGreatDoor.Stim
open Go.RowKit
def strings_Cut.f (a0 : ByteArray) (a1 : ByteArray) : Option (ByteArray × ByteArray × Bool) :=
 if a0.size < 4294967281 then some (⟨(Lib.cut a0.data.toList a1.data.toList).1.toArray⟩,⟨(Lib.cut a0.data.toList a1.data.toList).2.1.toArray⟩,(Lib.cut a0.data.toList a1.data.toList).2.2) else none
theorem below_drewN0 (w : World) (n : Nat) : Below w.heap.size w (w.drewN n):=⟨rfl,rfl,rfl,Nat.le_refl _,fun _ _ => rfl⟩
theorem strings_Cut.calls (a0 : ByteArray) (a1 : ByteArray) (r1 : ByteArray) (r2 : ByteArray) (r3 : Bool) (w : World) (hG : GV w) (h : strings_Cut.f a0 a1 = some (r1,r2,r3)) :
  Calls Tryz.prog 51 #[.string a0,.string a1] w fun e w' => e = .returned (.tuple #[.string r1,.string r2,.bool r3]) ∧ Below w.heap.size w w':=by
 unfold strings_Cut.f at h
 split at h
 ·rename_i hs
  injection h with h
  injection h with h1 h
  injection h with h2 h3
  subst h1 h2 h3
  obtain ⟨m,hm⟩:=hG.max
  have hc : w.cell? ⟨0,0,none⟩ = some (.int .i64 m):=by
   have:=World.var?_cell (P:=Tryz.prog) (g:=0) (by kernel_rfl) hm 0
   simpa using this
  refine (Tryz.strings_Cut a0 a1 m w hs hc).mono ?_
  rintro e w' ⟨rfl,n,rfl⟩
  exact ⟨rfl,below_drewN0 w n⟩
 ·cases h
end Go.Proofs.YtdmngdohlobogaaGreatDoor.Stim
end
section
namespace Go.Proofs.YtdmngdohlobogaaGreatDoor.Asc
open Go Go.RowKit Go.Proofs.YtdmngdohlobogaaGreatDoorW.PrintWords Go.Proofs.YtdmngdohlobogaaGreatDoorW.PrintLast Go.Proofs.YtdmngdohlobogaaGreatDoorW.PrintMore
set_option linter.unusedVariables false
set_option linter.unusedSimpArgs false
def RD (w : World) (R : Nat) (s : ByteArray) (p : Nat) : Prop:=w.heap[R]? = some (.cells #[.string s,.int .i64 (p : Int)] 88 (0,0))
structure KR (w W : World) (R : Nat) : Prop where
 kb : KB w W R
 be : Below R w W
theorem KR.refl (w : World) (R : Nat) : KR w w R:=⟨KB.refl _ _,Below.refl _ _⟩
theorem KR.trans {w W V : World} {R : Nat} (h : KR w W R) (k : KR W V R) : KR w V R:=⟨h.kb.trans k.kb,h.be.trans k.be⟩
theorem KR.below {w W : World} {R : Nat} (hR : R ≤ w.heap.size) (h : Below w.heap.size w W) : KR w W R:=⟨(KB.refl _ _).of_below h,h.mono hR⟩
theorem KR.set (w : World) (R j : Nat) (u : Value) : KR w (w.setCell ⟨R,j,none⟩ u) R:=⟨(KB.refl _ _).set j u,(Below.refl _ _).setCell (p:=⟨R,j,none⟩) (Nat.le_refl _) _⟩
theorem RD.put {w : World} {R p : Nat} {s : ByteArray} (h : RD w R s p) (m q : Nat) : RD ((w.drewN m).setCell ⟨R,1,none⟩ (.int .i64 (q : Int))) R s q:=blk_set (w:=w.drewN m) h 1 _
theorem RD.below {w W : World} {R p : Nat} {s : ByteArray} (h : RD w R s p) (hb : Below w.heap.size w W) : RD W R s p:=(hb.block R (blk_lt h)).trans h
theorem RD.lt {w : World} {R p : Nat} {s : ByteArray} (h : RD w R s p) : R < w.heap.size:=blk_lt h
def faultV (p c : Int) : Value:=.agg #[.int .i64 p,.int .i64 c]
def thrown (p : Nat) : Ending:=.panicked [{ v:=.iface 32 (faultV p 42),recovered:=false }]
theorem give_calls (r : Value) (p c : Int) (w : World) : Calls Tryz.prog 58 #[r,.int .i64 p,.int .i64 c] w fun e w' => e = .panicked [{ v:=.iface 32 (faultV p c),recovered:=false }] ∧ w' = w:=by
 unfold faultV
 go_enter Tryz.func58,Tryz.ntmps58
 go_wp2
 exact ⟨rfl,rfl,rfl⟩
theorem indexByte_lt' : ∀ (l : List UInt8) (c : UInt8),Lib.indexByte l c < l.length:=fun l c => by
 rcases Stim.indexByte_lt l c with h|h <;> omega
theorem ix_calls {s : ByteArray} {p : Nat} {ix : Int} (h : Lib.indexByte (s.extract p s.size).data.toList 10 = ix) (w : World) : Calls Tryz.prog 82 #[.string (s.extract p s.size),.int .u8 10] w fun e w' => e = .returned (.int .i64 ix) ∧ w' = w:=by
 rw [← h]
 exact Tryz.strings_IndexByte (s.extract p s.size) 10 w
set_option maxHeartbeats 1000000 in
theorem line_no {R p : Nat} {s : ByteArray} {w : World} (hR : RD w R s p) (hp : p ≤ s.size) (hs : s.size ≤ 262144) (h : lineF s p = none) :
  Calls Tryz.prog 56 #[.pointer (some ⟨R,0,none⟩)] w fun e w' => e = thrown p ∧ Below w.heap.size w w':=by
 obtain ⟨ix,hix⟩ : ∃ ix,Lib.indexByte (s.extract p s.size).data.toList 10 = ix:=⟨_,rfl⟩
 unfold lineF at h
 rw [hix] at h
 have hlt : ix < 0:=by
  split at h
  ·assumption
  ·cases h
 have hltb : decide (ix < 0) = true:=decide_eq_true hlt
 have c0 : w.cell? ⟨R,0,none⟩ = some (.string s):=bC_ hR 0
 have c1 : w.cell? ⟨R,1,none⟩ = some (.int .i64 (p : Int)):=bC_ hR 1
 have hp' : (p : Int) ≤ (s.size : Int):=by omega
 have HI:=Lib.hid (ix_calls hix)
 clear hix h hR hs hlt
 unfold thrown
 go_enter Tryz.func56,Tryz.ntmps56
 go_wp2
 repeat (go_quiet ((go_at_call 82;exact Calls.quiet_of_same (HI.out _)));try (go_wp2_with (go_at_call 58;refine (give_calls _ _ _ _).mono ?_;rintro e w' ⟨rfl,rfl⟩)))
 exact ⟨rfl,rfl,eN_ (Below.refl _ _) _⟩
set_option maxHeartbeats 1000000 in
theorem line_yes {R p q : Nat} {s l : ByteArray} {w : World} (hR : RD w R s p) (hp : p ≤ s.size) (hs : s.size ≤ 262144) (h : lineF s p = some (l,q)) :
  Calls Tryz.prog 56 #[.pointer (some ⟨R,0,none⟩)] w fun e w' => e = .returned (.string l) ∧ RD w' R s q ∧ KR w w' R:=by
 obtain ⟨ix,hix⟩ : ∃ ix,Lib.indexByte (s.extract p s.size).data.toList 10 = ix:=⟨_,rfl⟩
 have hup:=indexByte_lt' (s.extract p s.size).data.toList 10
 rw [hix,data_length] at hup
 unfold lineF at h
 rw [hix] at h
 have hlt : 0 ≤ ix:=by
  split at h
  ·cases h
  ·omega
 obtain ⟨k,rfl⟩ : ∃ k : Nat,ix = k:=⟨ix.toNat,by omega⟩
 rw [if_neg (by omega),Int.toNat_natCast] at h
 injection h with h
 injection h with h1 h2
 subst h1
 subst h2
 have hsz : (s.extract p s.size).size = s.size - p:=by simp
 have hk : k < s.size - p:=by omega
 have hltb : decide ((k : Int) < 0) = false:=decide_eq_false (by omega)
 have c0 : w.cell? ⟨R,0,none⟩ = some (.string s):=bC_ hR 0
 have c1 : w.cell? ⟨R,1,none⟩ = some (.int .i64 (p : Int)):=bC_ hR 1
 have f1 : w.frozen? ⟨R,1,none⟩ = false:=bF_ hR 1
 have hp' : (p : Int) ≤ (s.size : Int):=by omega
 have hpk : (p : Int) + (k : Int) ≤ (s.size : Int):=by omega
 have hs' : (s.size : Int) ≤ 262144:=by omega
 have hp0 : 0 ≤ (p : Int) + (k : Int):=by omega
 have hpn : ((p : Int) + (k : Int)).toNat = p + k:=by omega
 have hw1 : IntKind.i64.wrap ((k : Int) + 1) = (k : Int) + 1:=by rw [IntKind.wrap_i64];omega
 have hw2 : IntKind.i64.wrap ((p : Int) + ((k : Int) + 1)) = (p : Int) + ((k : Int) + 1):=by rw [IntKind.wrap_i64];omega
 have hsl : ∀ w : World,(Instr.slice 9 (.string s) (some (.int .i64 (p : Int))) (some (.int .i64 ((p : Int) + (k : Int)))) none).run Tryz.prog w = .ok (.string (s.extract p (p + k))) w:=fun w => by
  rw [run_slice_string w 9 s .i64 .i64 _ _ Tryz.underlying9 (by omega) (by omega) (by omega),hpn,Int.toNat_natCast]
 have HI:=Lib.hid (ix_calls hix)
 have HR:=Lib.hid hR
 clear hix hR hlt hup hsz hs hp hpn hp0
 go_enter Tryz.func56,Tryz.ntmps56
 go_wp2
 repeat (go_quiet ((go_at_call 82;exact Calls.quiet_of_same (HI.out _)));try go_wp2)
 go_ret
 have e : (p : Int) + ((k : Int) + 1) = ((p + k + 1 : Nat) : Int):=by omega
 rw [e]
 exact ⟨rfl,RD.put HR.out _ _,⟨(KB.refl _ _).set 1 _,(eN_ (Below.refl _ _) _).setCell (p:=⟨R,1,none⟩) (Nat.le_refl _) _⟩⟩
end Go.Proofs.YtdmngdohlobogaaGreatDoor.Asc
end
section
namespace Go
open Go.RowKit
def SeqStopsS {α : Type} (F : Fence) (n : Nat) (P : Program) (g : Nat) (lb : Array Value) (encs : α → Array Value) (Kp : World → World → Prop) (S Sp : List α → Prop) (N Bs : Nat) (w : World) : Prop :=
 ∀ (l : Nat) (J Jx : List α → World → Prop) (W : World),Below w.heap.size w W → AbidesFrom W.heap.size J → AbidesFrom W.heap.size Jx →
  (∀ pre W1 v,J pre W1 → J pre (W1.setCell ⟨Bs,0,none⟩ v)) →
  (∀ pre x W1,J pre W1 → pre.length < N → YieldAt F (n - 1) P l (encs x) W1 fun e W' =>
   (e = .returned (.bool true) ∧ J (pre ++ [x]) W' ∧ Kp W1 W') ∨ (e = .returned (.bool false) ∧ Jx (pre ++ [x]) W')) →
  J [] W →
  CallsIn F n P g (#[.func (.yield l) #[] #[]] ++ lb) W fun e W' => (∃ v,e = .returned v) ∧ ((∃ xs,S xs ∧ J xs W') ∨ (∃ pre,Sp pre ∧ Jx pre W'))
variable {F : Fence} {n : Nat} {P : Program}
theorem wpIn_rangeFunc_ownS {α : Type} {g : Operand} {ps : Array Tmp} {assign body : Code} {Q : Exit → Act → World → Prop} {a : Act} {w : World}
  (hro : F.round = none) (h1 : 1 ≤ n) {gf : Nat} {lb : Array Value} (hg : a.eval g = .func (.func gf) #[] lb) (hFg : F.fn gf) (eg : ∀ args w,(callFunc gf args).run P w = .ok (.enter gf args) w)
  {encs : α → Array Value} {Kp : World → World → Prop} {S Sp : List α → Prop} {N Bs : Nat} {w0 : World} (hseq : SeqStopsS F (n - 1) P gf lb encs Kp S Sp N Bs w0)
  (hKt : ∀ {A B C : World},Kp A B → Kp B C → Kp A C) (hKb : ∀ (W : World) (l : Nat) (o o' : Obj),w.heap.size ≤ l → W.heap[l]? = some o → o.isCells = false → o.isWalk = false → Kp W (W.putObj l o')) (hb0 : Below w0.heap.size w0 w) (hps : ∀ x,(encs x).size = ps.size)
  (I : List α → World → Prop) (Ix : Code → List α → World → Prop) (hI : OwnFrom w.heap.size I) (hIx : ∀ c,OwnFrom w.heap.size (Ix c)) (hBs : Bs < w.heap.size) (hIs : ∀ pre W v,I pre W → I pre (W.setCell ⟨Bs,0,none⟩ v)) (h0 : I [] w) (a₁ : α → Act)
  (hassign : ∀ (l : Nat) (x : α) (W : World) (K : Act → World → Prop),K (a₁ x) W →
   assign.wpIn (F.inRound l) (n - 1 - 1) P (Exit.then K (fun _ _ _ => False)) { tmps:=(ps.zip (encs x)).foldl (fun t (p,v) => t.setIfInBounds p v) a.tmps,defers:=[] } W)
  (hbody : ∀ (l : Nat) (pre : List α) (x : α) (W : World),I pre W → pre.length < N → body.wpIn (F.inRound l) (n - 1 - 1) P (ownPostK Kp I Ix (pre ++ [x]) W) (a₁ x) W)
  (hdone : ∀ (D : Nat) (xs : List α) (W : World),w.heap.size ≤ D → S xs → I xs W → W.heap[D]? = some (.deferred (some [])) → Q .normal { a with defers:={ target:=.collected D,args:=#[] } :: a.defers } W)
  (hstop : ∀ (D : Nat) (c : Code) (pre : List α) (W : World),w.heap.size ≤ D → Sp pre → Ix c pre W → W.heap[D]? = some (.deferred (some [])) → c.wpIn F n P Q { a with defers:={ target:=.collected D,args:=#[] } :: a.defers } W) :
  (Code.rangeFunc g ps assign body).wpIn F n P Q a w:=by
 refine wpIn_rangeFunc ?_
 intro fn hfn
 rw [hro]
 obtain ⟨rec,hrec⟩ : ∃ rec : LoopState → Option Code → Loop,rec = fun st pe => { state:=st,pending:=pe,fn,tmps:=a.tmps,params:=ps,assign,body,defers:=w.heap.size }:=⟨_,rfl⟩
 obtain ⟨W1,hW1⟩ : ∃ W1,(w.alloc (.deferred (some []))).alloc (.loop (rec .ready none)) = W1:=⟨_,rfl⟩
 have hL1 : W1.heap[w.heap.size + 1]? = some (.loop (rec .ready none)):=by
  rw [← hW1];have:=World.alloc_heap_new (w.alloc (.deferred (some []))) (.loop (rec .ready none));rwa [World.size_alloc] at this
 have hK1 : W1.heap[w.heap.size]? = some (.deferred (some [])):=by
  rw [← hW1];exact (Below.heap_alloc _ _ _ (by simp)).trans (World.alloc_heap_new w _)
 have hI1 : I [] W1:=by rw [← hW1];exact hI.alloc _ (hI.alloc _ h0)
 have hb1 : Below w0.heap.size w0 W1:=by
  rw [← hW1];exact hb0.trans ((((Below.refl _ w).alloc (Nat.le_refl _) _).alloc (by simp) _).mono hb0.size)
 refine ⟨w.heap.size + 1,[{ target:=.collected w.heap.size,args:=#[] }],W1,{ target:=.fn (.func gf) lb,args:=#[.func (.yield (w.heap.size + 1)) #[] #[]] },W1,gf,
  #[.func (.yield (w.heap.size + 1)) #[] #[]] ++ lb,W1,?_,?_,?_,?_,fun _ => h1,?_⟩
 ·rw [← hW1,hrec];exact run_enterLoop_outer _ _ _ _ _
 ·simp only [resolve,hg]
  simp [go_sem]
 ·intro f' hf';simp [Target.leads] at hf';subst hf';exact hFg
 ·simp [invoke,go_sem,eg]
 ·
  have hnw : ∀ {A B : World} {row : Option Nat},(∀ r,row = some r → W1.heap.size ≤ r ∧ ∃ o : Obj,A.heap[r]? = some o ∧ o.isWalk = true) → (∀ r,row = some r → w.heap.size ≤ r ∧ ∃ o : Obj,A.heap[r]? = some o ∧ o.isCells = false) :=
   fun hr r e => by obtain ⟨hB,o,ho,hw⟩:=hr r e;exact ⟨by rw [← hW1] at hB;simp at hB;omega,o,ho,Obj.not_cells_of_walk hw⟩
  refine (hseq (w.heap.size + 1)
   (fun pre W => I pre W ∧ W.heap[w.heap.size + 1]? = some (.loop (rec .ready none)) ∧ W.heap[w.heap.size]? = some (.deferred (some [])))
   (fun pre W => ∃ c,Ix c pre W ∧ W.heap[w.heap.size + 1]? = some (.loop (rec .done (some c))) ∧ W.heap[w.heap.size]? = some (.deferred (some [])))
   W1 hb1
   (fun s A B row hs hg' hr => ⟨hI s A B row hs.1 hg' (hnw (B:=B) hr),(grownBy_keeps hg' (fun r e => (hr r e).2) hs.2.1 rfl).trans hs.2.1,(grownBy_keeps hg' (fun r e => (hr r e).2) hs.2.2 rfl).trans hs.2.2⟩)
   (fun s A B row hs hg' hr => by
    obtain ⟨c,hc,hl,hk⟩:=hs
    exact ⟨c,hIx c s A B row hc hg' (hnw (B:=B) hr),(grownBy_keeps hg' (fun r e => (hr r e).2) hl rfl).trans hl,(grownBy_keeps hg' (fun r e => (hr r e).2) hk rfl).trans hk⟩)
   (fun pre A v hs => ⟨hIs pre A v hs.1,((grownBy_setCell' A Bs v).block _ (Array.getElem?_eq_some_iff.1 hs.2.1).1 (by simp;omega)).trans hs.2.1,((grownBy_setCell' A Bs v).block _ (Array.getElem?_eq_some_iff.1 hs.2.2).1 (by simp;omega)).trans hs.2.2⟩)
   ?_ ⟨hI1,hL1,hK1⟩).mono ?_
  ·
   rintro pre x W ⟨hi,hl,hk⟩ hlen
   have hlt : w.heap.size + 1 < W.heap.size:=(Array.getElem?_eq_some_iff.1 hl).1
   have hy:=run_yield (P:=P) (args:=encs x) hl (by rw [hrec];exact hps x)
   rw [hrec] at hy
   refine ⟨fn,_,assign,body,hy,roundIn_of_wpIn hfn (hassign _ x W _ ⟨_,run_beginRound hl (by rw [hrec]),?_⟩)⟩
   have hl2 : (W.putObj (w.heap.size + 1) (.loop { rec .ready none with state:=.busy })).heap[w.heap.size + 1]? = some (.loop { rec .ready none with state:=.busy }):=World.putObj_heap_same hlt
   have hk2 : (W.putObj (w.heap.size + 1) (.loop { rec .ready none with state:=.busy })).heap[w.heap.size]? = some (.deferred (some [])):=(World.putObj_heap_other (by omega)).trans hk
   have hw2 : Kp W (W.putObj (w.heap.size + 1) (.loop { rec .ready none with state:=.busy })):=hKb _ _ _ _ (by omega) hl rfl rfl
   refine wpIn_mono (hbody _ pre x _ (hI.putObj _ hi (by omega) hl rfl) hlen) ?_
   have fin : ∀ (jump : Option Code) (W3 : World),KeepsOthers (W.putObj (w.heap.size + 1) (.loop { rec .ready none with state:=.busy })) W3 →
     (Instr.endRound (w.heap.size + 1) jump).run P W3 = .ok (.bool jump.isNone) (W3.putObj (w.heap.size + 1) (.loop (rec (if jump.isNone then .ready else .done) jump))) ∧
     W3.heap[w.heap.size + 1]? = some (.loop { rec .ready none with state:=.busy }) ∧
     (W3.putObj (w.heap.size + 1) (.loop (rec (if jump.isNone then .ready else .done) jump))).heap[w.heap.size + 1]? = some (.loop (rec (if jump.isNone then .ready else .done) jump)) ∧
     (W3.putObj (w.heap.size + 1) (.loop (rec (if jump.isNone then .ready else .done) jump))).heap[w.heap.size]? = some (.deferred (some [])):=fun jump W3 hk3 => by
    have hl3:=hk3.same _ _ hl2 rfl
    have:=run_endRound (P:=P) jump hl3
    rw [hrec] at this ⊢
    exact ⟨this,by rw [hrec] at hl3;exact hl3,World.putObj_heap_same (Array.getElem?_eq_some_iff.1 hl3).1,(World.putObj_heap_other (by omega)).trans (hk3.same _ _ hk2 rfl)⟩
   rintro e a3 W3 hp
   cases e with
   |normal =>
    obtain ⟨hk3,hkp3,hi3⟩:=hp
    obtain ⟨hr,hl3,hl4,hk4⟩:=fin none W3 hk3
    exact ⟨_,_,hr,.inl ⟨rfl,⟨hI.putObj _ hi3 (by omega) hl3 rfl,hl4,hk4⟩,hKt (hKt hw2 hkp3) (hKb _ _ _ _ (by omega) hl3 rfl rfl)⟩⟩
   |ret =>
    obtain ⟨hk3,hi3⟩:=hp
    obtain ⟨hr,hl3,hl4,hk4⟩:=fin (some .ret) W3 hk3
    exact ⟨_,_,hr,.inr ⟨rfl,.ret,(hIx _).putObj _ hi3 (by omega) hl3 rfl,hl4,hk4⟩⟩
   |exit id =>
    obtain ⟨hk3,hi3⟩:=hp
    obtain ⟨hr,hl3,hl4,hk4⟩:=fin (some (.exit id)) W3 hk3
    exact ⟨_,_,hr,.inr ⟨rfl,.exit id,(hIx _).putObj _ hi3 (by omega) hl3 rfl,hl4,hk4⟩⟩
   |goto t =>
    obtain ⟨hk3,hi3⟩:=hp
    obtain ⟨hr,hl3,hl4,hk4⟩:=fin (some (.goto t)) W3 hk3
    exact ⟨_,_,hr,.inr ⟨rfl,.goto t,(hIx _).putObj _ hi3 (by omega) hl3 rfl,hl4,hk4⟩⟩
   |panic ch => exact hp.elim
   |outgrown => exact hp.elim
  ·
   rintro e W2 ⟨⟨v,rfl⟩,(⟨xs,hS,hi,hl,hk⟩|⟨pre,hSp,c,hi,hl,hk⟩)⟩
   ·exact ⟨none,_,by have:=run_endLoop (P:=P) hl (by rw [hrec];simp);rw [hrec] at this;exact this,hdone _ xs _ (Nat.le_refl _) hS (hI.putObj _ hi (by omega) hl rfl) ((World.putObj_heap_other (by omega)).trans hk)⟩
   ·exact ⟨some c,_,by have:=run_endLoop (P:=P) hl (by rw [hrec];simp);rw [hrec] at this;exact this,hstop _ c pre _ (Nat.le_refl _) hSp ((hIx c).putObj _ hi (by omega) hl rfl) ((World.putObj_heap_other (by omega)).trans hk)⟩
end Go
end
section
set_option linter.unusedVariables false
set_option linter.unusedSimpArgs false
namespace Go.Proofs.YtdmngdohlobogaaGreatDoor.Stim
open Go Go.RowKit Go.Shelf
attribute [local go_sem] Oper.semAt_some
def KpS (Bs Bp Bv : Nat) (W W' : World) : Prop:=W.heap.size ≤ W'.heap.size ∧ W'.heap[Bs]? = W.heap[Bs]? ∧ W'.heap[Bp]? = W.heap[Bp]? ∧ W'.heap[Bv]? = W.heap[Bv]?
theorem KpS.t {Bs Bp Bv : Nat} {A B C : World} (h : KpS Bs Bp Bv A B) (k : KpS Bs Bp Bv B C) : KpS Bs Bp Bv A C:=⟨Nat.le_trans h.1 k.1,k.2.1.trans h.2.1,k.2.2.1.trans h.2.2.1,k.2.2.2.trans h.2.2.2⟩
def leftS (Bs : Nat) (W : World) : Nat:=match W.cell? ⟨Bs,0,none⟩ with
 |some (.string r) => r.size
 |_ => 0
theorem leftS_eq {Bs : Nat} {W : World} {r : ByteArray} (h : Boxed W Bs 9 (.string r)) : leftS Bs W = r.size:=by
 unfold leftS
 rw [h.cell]
abbrev Wd:={ x : ByteArray // x.size ≤ 4294967281 }
def texts (l : List Wd) : List ByteArray:=l.map (·.1)
theorem texts_snoc (l : List Wd) (x : Wd) : texts (l ++ [x]) = texts l ++ [x.1]:=by simp [texts]
set_option maxRecDepth 100000 in
set_option maxHeartbeats 2000000 in
theorem splitSeq_stops (n : Nat) (hn : 3 ≤ n) (s : ByteArray) (hs : s.size ≤ 4294967281) (Bs Bp Bv : Nat) (w : World) (h1 : Boxed w Bs 9 (.string s)) (h2 : Boxed w Bp 9 (.string ⟨#[32]⟩)) (h3 : Boxed w Bv 3 (.int .i64 0)) (d1 : Bs ≠ Bp) (d2 : Bs ≠ Bv) :
  SeqStopsS Fence.wide n Tryz.prog 124 #[.pointer (some ⟨Bp,0,none⟩),.pointer (some ⟨Bs,0,none⟩),.pointer (some ⟨Bv,0,none⟩)] (fun x : Wd => #[.string x.1]) (KpS Bs Bp Bv) (fun xs => texts xs = fragsB s) (fun pre => texts pre <+: fragsB s) (fragsB s).length Bs w:=fun l J Jx W hW hJ hJx hst hY h0 => by
 have k1 : Boxed W Bs 9 (.string s):=(hW.block Bs h1.lt).trans h1
 have k2 : Boxed W Bp 9 (.string ⟨#[32]⟩):=(hW.block Bp h2.lt).trans h2
 have k3 : Boxed W Bv 3 (.int .i64 0):=(hW.block Bv h3.lt).trans h3
 clear h1 h2 h3 hW hJ hJx
 have c1:=k1.cell
 have c2:=k2.cell
 refine callsIn_of_wp Tryz.func124 rfl trivial ?_ rfl
 simp only [Tryz.ntmps124,List.size_toArray,List.length_cons,List.length_nil,Nat.reduceAdd,Nat.reduceSub,Array.replicate_succ,Array.replicate_zero,List.push_toArray,List.append_toArray,List.nil_append,List.cons_append]
 gi_wp2
 gi_loopw [7] (fun _ wr => ∃ (pre : List Wd) (r : ByteArray),fragsB s = texts pre ++ fragsB r ∧ r.size ≤ s.size ∧ Boxed wr Bs 9 (.string r) ∧ Boxed wr Bp 9 (.string ⟨#[32]⟩) ∧ Boxed wr Bv 3 (.int .i64 0) ∧ J pre wr)
  (fun _ wr => leftS Bs wr)
 case atStart => exact ⟨[],s,rfl,Nat.le_refl _,k1,k2,k3,h0⟩
 case round =>
  obtain ⟨pre,r,hfr,hrs,b1,b2,b3,hJr⟩:=hrel
  clear k1 k2 k3 h0 c1 c2
  have c1:=b1.cell
  have c2:=b2.cell
  have c3:=b3.cell
  have f1:=b1.frozen
  have hge:=Lib.indexByte_ge r.data.toList 32
  have hlt:=indexByte_lt r.data.toList 32
  rw [size_list] at hlt
  have hI:=callsIn_wide (n:=n - 1) |>.2 (Tryz.strings_Index_one r 32 wr)
  have HI:=Lib.hid hI
  clear hI
  by_cases hneg : Lib.indexByte r.data.toList 32 < 0
  ·have hf1:=fragsB_none r hneg
   obtain ⟨fn,tmps,assign,body,hy,hR⟩:=hY pre ⟨r,by omega⟩ wr hJr (by rw [hfr,hf1];simp [texts])
   have HN:=Lib.hid hneg
   have hdec : decide (Lib.indexByte r.data.toList 32 < 0) = true:=decide_eq_true hneg
   have HF:=Lib.hid hf1
   have HFR:=Lib.hid hfr
   clear hlt hge hf1 hfr hY hst
   gi_wp2
   refine ⟨trivial,fun _ => by omega,?_⟩
   refine HI.out.mono ?_
   rintro e w' ⟨rfl,rfl⟩
   gi_wp2
   refine ⟨fun _ => by omega,hR.mono ?_⟩
   rintro e W3 (⟨rfl,hJ3,hk3⟩|⟨rfl,hJx3⟩)
   ·gi_wp2
    go_end0
    exact ⟨⟨_,rfl⟩,.inl ⟨_,by rw [HFR.out,HF.out,texts_snoc],hJ3⟩⟩
   ·gi_wp2
    go_end0
    exact ⟨⟨_,rfl⟩,.inr ⟨_,by rw [HFR.out,HF.out,texts_snoc];exact List.prefix_refl _,hJx3⟩⟩
  ·obtain ⟨i,hi⟩ : ∃ i : Nat,Lib.indexByte r.data.toList 32 = i:=⟨(Lib.indexByte r.data.toList 32).toNat,by omega⟩
   have hf1:=fragsB_some r i hi
   obtain ⟨fn,tmps,assign,body,hy,hR⟩:=hY pre ⟨r.extract 0 i,by simp;omega⟩ wr hJr (by rw [hfr,hf1];simp [texts])
   rw [hi] at HI
   have hil : i < r.size:=by omega
   have HF:=Lib.hid hf1
   have HFR:=Lib.hid hfr
   have HY:=Lib.hid hst
   clear hlt hge hf1 hfr hY hst hi hneg
   gi_wp2
   refine ⟨trivial,fun _ => by omega,?_⟩
   refine HI.out.mono ?_
   rintro e w' ⟨rfl,rfl⟩
   gi_wp2
   refine ⟨fun _ => by omega,hR.mono ?_⟩
   rintro e W3 (⟨rfl,hJ3,hk3⟩|⟨rfl,hJx3⟩)
   ·have q1 : Boxed W3 Bs 9 (.string r):=hk3.2.1.trans b1
    have q2 : Boxed W3 Bp 9 (.string ⟨#[32]⟩):=hk3.2.2.1.trans b2
    have q3 : Boxed W3 Bv 3 (.int .i64 0):=hk3.2.2.2.trans b3
    have x1:=q1.cell
    have x2:=q2.cell
    have x3:=q3.cell
    have g1:=q1.frozen
    gi_wp2
    go_roundw
    case rel =>
     exact ⟨pre ++ [⟨r.extract 0 i,by simp;omega⟩],r.extract (i + 1) r.size,by rw [HFR.out,HF.out,texts_snoc];simp,by simp;omega,q1.set _,q2.other (Ne.symm d1) _,q3.other (Ne.symm d2) _,HY.out _ _ _ hJ3⟩
    case measure =>
     rw [leftS_eq b1,leftS_eq (q1.set _)]
     simp
     omega
   ·gi_wp2
    refine bodyPost_ret (results_none rfl _ _ _) rfl ?_
    exact ⟨⟨_,rfl⟩,.inr ⟨_,by rw [HFR.out,HF.out,texts_snoc];exact ⟨fragsB (r.extract (i + 1) r.size),by simp⟩,hJx3⟩⟩
set_option maxRecDepth 100000 in
theorem splitSeq_made (s p : ByteArray) (w : World) :
  Calls Tryz.prog 78 #[.string s,.string p] w fun e w' => e = .returned (.func (.func 124) #[] #[.pointer (some ⟨w.heap.size + 1,0,none⟩),.pointer (some ⟨w.heap.size,0,none⟩),.pointer (some ⟨w.heap.size + 2,0,none⟩)]) ∧
   w' = ((w.alloc (.cells #[.string s] 9)).alloc (.cells #[.string p] 9)).alloc (.cells #[.int .i64 0] 3):=by
 go_enter Tryz.func78,Tryz.ntmps78
 go_wp2
 go_ret
 exact ⟨rfl,rfl⟩
end Go.Proofs.YtdmngdohlobogaaGreatDoor.Stim
end
