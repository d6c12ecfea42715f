import Derived.Test.YtojepjkpnponoaaDoorEM7
import Derived.Test.YtojepjkpnponoaaDoorEGCut
import Derived.Laws.Strings2
namespace Go.Proofs.YtojepjkpnponoaaDoor.Asc
open Go Go.RowKit Go.Proofs.YtojepjkpnponoaaDoorW.PrintWords Go.Proofs.YtojepjkpnponoaaDoorW.PrintLast Go.Proofs.YtojepjkpnponoaaDoorW.PrintMore
set_option linter.unusedVariables false
set_option linter.unusedSimpArgs false
def RD (w : World) (R : Nat) (s : ByteArray) (p : Nat) : Prop:=w.heap[R]? = some (.cells #[.string s,.int .i64 (p : Int)] 111 (0,0))
structure KR (w W : World) (R : Nat) : Prop where
  kb : KB w W R
  be : Below R w W
theorem KR.refl (w : World) (R : Nat) : KR w w R:=⟨KB.refl _ _,Below.refl _ _⟩
theorem KR.trans {w W V : World} {R : Nat} (h : KR w W R) (k : KR W V R) : KR w V R:=⟨h.kb.trans k.kb,h.be.trans k.be⟩
theorem KR.below {w W : World} {R : Nat} (hR : R ≤ w.heap.size) (h : Below w.heap.size w W) : KR w W R:=⟨(KB.refl _ _).of_below h,h.mono hR⟩
theorem KR.set (w : World) (R j : Nat) (u : Value) : KR w (w.setCell ⟨R,j,none⟩ u) R:=⟨(KB.refl _ _).set j u,(Below.refl _ _).setCell (p:=⟨R,j,none⟩) (Nat.le_refl _) _⟩
theorem RD.put {w : World} {R p : Nat} {s : ByteArray} (h : RD w R s p) (m q : Nat) : RD ((w.drewN m).setCell ⟨R,1,none⟩ (.int .i64 (q : Int))) R s q:=blk_set (w:=w.drewN m) h 1 _
theorem RD.below {w W : World} {R p : Nat} {s : ByteArray} (h : RD w R s p) (hb : Below w.heap.size w W) : RD W R s p:=(hb.block R (blk_lt h)).trans h
theorem RD.lt {w : World} {R p : Nat} {s : ByteArray} (h : RD w R s p) : R < w.heap.size:=blk_lt h
def faultV (p c : Int) : Value:=.agg #[.int .i64 p,.int .i64 c]
def thrown (p : Nat) : Ending:=.panicked [{ v:=.iface 40 (faultV p 42),recovered:=false }]
theorem give_calls (r : Value) (p c : Int) (w : World) : Calls Tryd.prog 56 #[r,.int .i64 p,.int .i64 c] w fun e w' => e = .panicked [{ v:=.iface 40 (faultV p c),recovered:=false }] ∧ w' = w:=by
  unfold faultV
  go_enter Tryd.func56,Tryd.ntmps56
  go_wp2
  exact ⟨rfl,rfl,rfl⟩
theorem indexByte_lt' : ∀ (l : List UInt8) (c : UInt8),Lib.indexByte l c < l.length:=fun l c => by
  rcases Stim.indexByte_lt l c with h|h <;> omega
theorem ix_calls {s : ByteArray} {p : Nat} {ix : Int} (h : Lib.indexByte (s.extract p s.size).data.toList 10 = ix) (w : World) : Calls Tryd.prog 81 #[.string (s.extract p s.size),.int .u8 10] w fun e w' => e = .returned (.int .i64 ix) ∧ w' = w:=by
  rw [← h]
  exact Tryd.strings_IndexByte (s.extract p s.size) 10 w
set_option maxHeartbeats 1000000 in
theorem line_no {R p : Nat} {s : ByteArray} {w : World} (hR : RD w R s p) (hp : p ≤ s.size) (hs : s.size ≤ 262144) (h : lineF s p = none) :
    Calls Tryd.prog 54 #[.pointer (some ⟨R,0,none⟩)] w fun e w' => e = thrown p ∧ Below w.heap.size w w':=by
  obtain ⟨ix,hix⟩ : ∃ ix,Lib.indexByte (s.extract p s.size).data.toList 10 = ix:=⟨_,rfl⟩
  unfold lineF at h
  rw [hix] at h
  have hlt : ix < 0:=by
    split at h
    · assumption
    · cases h
  have hltb : decide (ix < 0) = true:=decide_eq_true hlt
  have c0 : w.cell? ⟨R,0,none⟩ = some (.string s):=blk_cell hR 0
  have c1 : w.cell? ⟨R,1,none⟩ = some (.int .i64 (p : Int)):=blk_cell hR 1
  have hp' : (p : Int) ≤ (s.size : Int):=by omega
  have HI:=Lib.hid (ix_calls hix)
  clear hix h hR hs hlt
  unfold thrown
  go_enter Tryd.func54,Tryd.ntmps54
  go_wp2
  repeat (go_quiet ((go_at_call 81;exact Calls.quiet_of_same (HI.out _)));try (go_wp2_with (go_at_call 56;refine (give_calls _ _ _ _).mono ?_;rintro e w' ⟨rfl,rfl⟩)))
  exact ⟨rfl,rfl,pw_below_drewN (Below.refl _ _) _⟩
set_option maxHeartbeats 1000000 in
theorem line_yes {R p q : Nat} {s l : ByteArray} {w : World} (hR : RD w R s p) (hp : p ≤ s.size) (hs : s.size ≤ 262144) (h : lineF s p = some (l,q)) :
    Calls Tryd.prog 54 #[.pointer (some ⟨R,0,none⟩)] w fun e w' => e = .returned (.string l) ∧ RD w' R s q ∧ KR w w' R:=by
  obtain ⟨ix,hix⟩ : ∃ ix,Lib.indexByte (s.extract p s.size).data.toList 10 = ix:=⟨_,rfl⟩
  have hup:=indexByte_lt' (s.extract p s.size).data.toList 10
  rw [hix,data_length] at hup
  unfold lineF at h
  rw [hix] at h
  have hlt : 0 ≤ ix:=by
    split at h
    · cases h
    · omega
  obtain ⟨k,rfl⟩ : ∃ k : Nat,ix = k:=⟨ix.toNat,by omega⟩
  rw [if_neg (by omega),Int.toNat_natCast] at h
  injection h with h
  injection h with h1 h2
  subst h1
  subst h2
  have hsz : (s.extract p s.size).size = s.size - p:=by simp
  have hk : k < s.size - p:=by omega
  have hltb : decide ((k : Int) < 0) = false:=decide_eq_false (by omega)
  have c0 : w.cell? ⟨R,0,none⟩ = some (.string s):=blk_cell hR 0
  have c1 : w.cell? ⟨R,1,none⟩ = some (.int .i64 (p : Int)):=blk_cell hR 1
  have f1 : w.frozen? ⟨R,1,none⟩ = false:=blk_frozen hR 1
  have hp' : (p : Int) ≤ (s.size : Int):=by omega
  have hpk : (p : Int) + (k : Int) ≤ (s.size : Int):=by omega
  have hs' : (s.size : Int) ≤ 262144:=by omega
  have hp0 : 0 ≤ (p : Int) + (k : Int):=by omega
  have hpn : ((p : Int) + (k : Int)).toNat = p + k:=by omega
  have hw1 : IntKind.i64.wrap ((k : Int) + 1) = (k : Int) + 1:=by rw [IntKind.wrap_i64];omega
  have hw2 : IntKind.i64.wrap ((p : Int) + ((k : Int) + 1)) = (p : Int) + ((k : Int) + 1):=by rw [IntKind.wrap_i64];omega
  have hsl : ∀ w : World,(Instr.slice 9 (.string s) (some (.int .i64 (p : Int))) (some (.int .i64 ((p : Int) + (k : Int)))) none).run Tryd.prog w = .ok (.string (s.extract p (p + k))) w:=fun w => by
    rw [run_slice_string w 9 s .i64 .i64 _ _ Tryd.underlying9 (by omega) (by omega) (by omega),hpn,Int.toNat_natCast]
  have HI:=Lib.hid (ix_calls hix)
  have HR:=Lib.hid hR
  clear hix hR hlt hup hsz hs hp hpn hp0
  go_enter Tryd.func54,Tryd.ntmps54
  go_wp2
  repeat (go_quiet ((go_at_call 81;exact Calls.quiet_of_same (HI.out _)));try go_wp2)
  go_ret
  have e : (p : Int) + ((k : Int) + 1) = ((p + k + 1 : Nat) : Int):=by omega
  rw [e]
  exact ⟨rfl,RD.put HR.out _ _,⟨(KB.refl _ _).set 1 _,(pw_below_drewN (Below.refl _ _) _).setCell (p:=⟨R,1,none⟩) (Nat.le_refl _) _⟩⟩
end Go.Proofs.YtojepjkpnponoaaDoor.Asc

