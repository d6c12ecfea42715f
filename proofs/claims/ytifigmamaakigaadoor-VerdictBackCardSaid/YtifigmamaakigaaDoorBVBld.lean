import Derived.Shelf.Strings.Builder1
import Derived.Shelf.Strings.BuilderF
import Derived.Shelf.Strings.BuilderK
import Derived.Test.YtifigmamaakigaaDoorBV3
set_option linter.unusedSimpArgs false
namespace Go.Proofs
open Go.Shelf
open Go.RowKit
def Tryd.laysB_ren : Go.Shelf.Ren:=⟨fun|166 => 17|167 => 16|169 => 21|170 => 20|240 => 29|276 => 49|n => n,fun|0 => 0|3 => 3|4 => 4|5 => 5|9 => 9|20 => 20|37 => 51|70 => 50|72 => 53|75 => 55|80 => 61|127 => 72|164 => 92|n => n,fun|n => n⟩
theorem Tryd.laysB166 : Go.Proofs.Lays.n166 Tryd.prog Tryd.laysB_ren:={
  mixed:=by kernel_rfl
  f166:=Tryd.func17.trans (congrArg some (by kernel_rfl))
  f240:=Tryd.func29.trans (congrArg some (by kernel_rfl))
  f276:=Tryd.func49.trans (congrArg some (by kernel_rfl))
  t0:=Tryd.underlying0
  a0:=Tryd.isAgg0
  z0:=Tryd.sizeOf0
  v0:=Tryd.zeroValue0
  t3:=Tryd.underlying3
  a3:=Tryd.isAgg3
  z3:=Tryd.sizeOf3
  v3:=Tryd.zeroValue3
  t4:=Tryd.underlying4
  a4:=Tryd.isAgg4
  z4:=Tryd.sizeOf4
  v4:=Tryd.zeroValue4
  t9:=Tryd.underlying9
  a9:=Tryd.isAgg9
  z9:=Tryd.sizeOf9
  v9:=Tryd.zeroValue9
  t20:=Tryd.underlying20
  a20:=Tryd.isAgg20
  z20:=Tryd.sizeOf20
  v20:=Tryd.zeroValue20
  t37:=Tryd.underlying51
  a37:=Tryd.isAgg51
  z37:=Tryd.sizeOf51
  v37:=Tryd.zeroValue51
  t70:=Tryd.underlying50
  a70:=Tryd.isAgg50
  z70:=Tryd.sizeOf50
  v70:=Tryd.zeroValue50
  t72:=Tryd.underlying53
  a72:=Tryd.isAgg53
  z72:=Tryd.sizeOf53
  v72:=Tryd.zeroValue53
  t75:=Tryd.underlying55
  a75:=Tryd.isAgg55
  z75:=Tryd.sizeOf55
  v75:=Tryd.zeroValue55
  t164:=Tryd.underlying92
  a164:=Tryd.isAgg92
  z164:=Tryd.sizeOf92
  v164:=Tryd.zeroValue92 }
theorem Tryd.laysB167 : Go.Proofs.Lays.n167 Tryd.prog Tryd.laysB_ren:={
  mixed:=by kernel_rfl
  f167:=Tryd.func16.trans (congrArg some (by kernel_rfl))
  f240:=Tryd.func29.trans (congrArg some (by kernel_rfl))
  f276:=Tryd.func49.trans (congrArg some (by kernel_rfl))
  t0:=Tryd.underlying0
  a0:=Tryd.isAgg0
  z0:=Tryd.sizeOf0
  v0:=Tryd.zeroValue0
  t4:=Tryd.underlying4
  a4:=Tryd.isAgg4
  z4:=Tryd.sizeOf4
  v4:=Tryd.zeroValue4
  t5:=Tryd.underlying5
  a5:=Tryd.isAgg5
  z5:=Tryd.sizeOf5
  v5:=Tryd.zeroValue5
  t9:=Tryd.underlying9
  a9:=Tryd.isAgg9
  z9:=Tryd.sizeOf9
  v9:=Tryd.zeroValue9
  t20:=Tryd.underlying20
  a20:=Tryd.isAgg20
  z20:=Tryd.sizeOf20
  v20:=Tryd.zeroValue20
  t37:=Tryd.underlying51
  a37:=Tryd.isAgg51
  z37:=Tryd.sizeOf51
  v37:=Tryd.zeroValue51
  t70:=Tryd.underlying50
  a70:=Tryd.isAgg50
  z70:=Tryd.sizeOf50
  v70:=Tryd.zeroValue50
  t72:=Tryd.underlying53
  a72:=Tryd.isAgg53
  z72:=Tryd.sizeOf53
  v72:=Tryd.zeroValue53
  t75:=Tryd.underlying55
  a75:=Tryd.isAgg55
  z75:=Tryd.sizeOf55
  v75:=Tryd.zeroValue55
  t164:=Tryd.underlying92
  a164:=Tryd.isAgg92
  z164:=Tryd.sizeOf92
  v164:=Tryd.zeroValue92 }
theorem Tryd.laysB169 : Go.Proofs.Lays.n169 Tryd.prog Tryd.laysB_ren:={
  mixed:=by kernel_rfl
  f169:=Tryd.func21.trans (congrArg some (by kernel_rfl))
  t0:=Tryd.underlying0
  a0:=Tryd.isAgg0
  z0:=Tryd.sizeOf0
  v0:=Tryd.zeroValue0
  t3:=Tryd.underlying3
  a3:=Tryd.isAgg3
  z3:=Tryd.sizeOf3
  v3:=Tryd.zeroValue3
  t9:=Tryd.underlying9
  a9:=Tryd.isAgg9
  z9:=Tryd.sizeOf9
  v9:=Tryd.zeroValue9
  t37:=Tryd.underlying51
  a37:=Tryd.isAgg51
  z37:=Tryd.sizeOf51
  v37:=Tryd.zeroValue51
  t70:=Tryd.underlying50
  a70:=Tryd.isAgg50
  z70:=Tryd.sizeOf50
  v70:=Tryd.zeroValue50
  t72:=Tryd.underlying53
  a72:=Tryd.isAgg53
  z72:=Tryd.sizeOf53
  v72:=Tryd.zeroValue53
  t127:=Tryd.underlying72
  a127:=Tryd.isAgg72
  z127:=Tryd.sizeOf72
  v127:=Tryd.zeroValue72 }
theorem Tryd.laysB170 : Go.Proofs.Lays.n170 Tryd.prog Tryd.laysB_ren:={
  mixed:=by kernel_rfl
  f170:=Tryd.func20.trans (congrArg some (by kernel_rfl))
  t0:=Tryd.underlying0
  a0:=Tryd.isAgg0
  z0:=Tryd.sizeOf0
  v0:=Tryd.zeroValue0
  t3:=Tryd.underlying3
  a3:=Tryd.isAgg3
  z3:=Tryd.sizeOf3
  v3:=Tryd.zeroValue3
  t37:=Tryd.underlying51
  a37:=Tryd.isAgg51
  z37:=Tryd.sizeOf51
  v37:=Tryd.zeroValue51
  t70:=Tryd.underlying50
  a70:=Tryd.isAgg50
  z70:=Tryd.sizeOf50
  v70:=Tryd.zeroValue50
  t72:=Tryd.underlying53
  a72:=Tryd.isAgg53
  z72:=Tryd.sizeOf53
  v72:=Tryd.zeroValue53 }
theorem Tryd.laysB_Extra : Builder.Extra Tryd.prog Tryd.laysB_ren:={
  sizeBuilder:=by kernel_rfl
  liesBuilder:=by kernel_rfl
  t5:=Tryd.underlying5
  a5:=Tryd.isAgg5
  z5:=Tryd.sizeOf5
  v5:=Tryd.zeroValue5
  infoByte:=by kernel_rfl
  cellsByte:=by kernel_rfl
  sizeByte:=by kernel_rfl
  neB5:=by decide }
theorem Tryd.Builder_WriteByte_k (B b : Nat) (bs : List Value) (c : Int) (w : World) (h : Lib.IsBuilderF 53 5 B b bs w) (hlen : bs.length + 1 ≤ 140737488355328) (hBw : B ≤ w.heap.size) :
    Calls Tryd.prog 16 #[.pointer (some ⟨b,0,none⟩),.int .u8 c] w fun e w' => e = .returned .nilIface ∧ (Lib.BuilderAtF 53 5 B b (.pointer (some ⟨b,0,none⟩)) (bs ++ [.int .u8 c]) w' ∧ Below B w w' ∧ Lib.OthersKept 5 (some b) w w'):=Any.Builder_WriteByte_k Tryd.laysB167 Tryd.laysB_Extra B b bs c w h hlen hBw
theorem Tryd.Builder_WriteString_k (B b : Nat) (bs : List Value) (s : ByteArray) (w : World) (h : Lib.IsBuilderF 53 5 B b bs w) (hlen : bs.length + s.size ≤ 140737488355328) (hBw : B ≤ w.heap.size) :
    Calls Tryd.prog 17 #[.pointer (some ⟨b,0,none⟩),.string s] w fun e w' => e = .returned (.tuple #[.int .i64 s.size,.nilIface]) ∧ (Lib.BuilderAtF 53 5 B b (.pointer (some ⟨b,0,none⟩)) (bs ++ Lib.strCells s) w' ∧ Below B w w' ∧ Lib.OthersKept 5 (some b) w w'):=Any.Builder_WriteString_k Tryd.laysB166 Tryd.laysB_Extra B b bs s w h hlen hBw
theorem Tryd.Builder_Len_f (B b : Nat) (bs : List Value) (w : World) (h : Lib.IsBuilderF 53 5 B b bs w) :
    Calls Tryd.prog 20 #[.pointer (some ⟨b,0,none⟩)] w fun e w' => e = .returned (.int .i64 bs.length) ∧ w' = w:=Any.Builder_Len_f Tryd.laysB170 B b bs w h
theorem Tryd.Builder_String_any_k (B b : Nat) (l : List UInt8) (w : World) (h : Lib.IsBuilderF 53 5 B b (Lib.byteCells l) w) (hBw : B ≤ w.heap.size) :
    Calls Tryd.prog 21 #[.pointer (some ⟨b,0,none⟩)] w fun e w' => e = .returned (.string ⟨l.toArray⟩) ∧ (Lib.IsBuilderF 53 5 B b (Lib.byteCells l) w' ∧ Below B w w' ∧ Lib.OthersKept 5 (some b) w w'):=Any.Builder_String_any_k Tryd.laysB169 Tryd.laysB_Extra B b l w h hBw
end Go.Proofs
namespace Go.Proofs.YtifigmamaakigaaDoor.V
open Go Go.RowKit Go.Proofs.YtifigmamaakigaaDoorW.PrintWords Go.Proofs.YtifigmamaakigaaDoorW.PrintLast Go.Proofs.YtifigmamaakigaaDoorW.PrintMore
set_option linter.unusedVariables false
structure PB (w W : World) (b : Nat) (l : List UInt8) : Prop where
  bld : Lib.IsBuilderF 53 5 w.heap.size b (Lib.byteCells l) W
  bel : Below w.heap.size w W
theorem byteCells_length (l : List UInt8) : (Lib.byteCells l).length = l.length:=by simp [Lib.byteCells]
theorem strCells_eq (s : ByteArray) : Lib.strCells s = Lib.byteCells s.data.toList:=by simp [Lib.strCells,Lib.byteCells]
theorem byteCells_append (l m : List UInt8) : Lib.byteCells l ++ Lib.byteCells m = Lib.byteCells (l ++ m):=by simp [Lib.byteCells]
theorem builderF_below {T e B b : Nat} {bs : List Value} {W W1 : World} (h : Lib.IsBuilderF T e B b bs W) (hb : Below W.heap.size W W1) : Lib.IsBuilderF T e B b bs W1:=by
  have go : ∀ p,Lib.BuilderAtF T e B b p bs W → Lib.BuilderAtF T e B b p bs W1:=by
    rintro p ⟨hB,v,hv,ho,hne⟩
    refine ⟨hB,v,blk_below hv hb,ho.kept (grown_of_below hb none) ?_,hne⟩
    cases hk : v.ownBlock with
    | none => exact .inl rfl
    | some k => exact .inr (by simp)
  exact h.elim (fun x => .inl (go _ x)) (fun x => .inr (go _ x))
section
variable {w W W1 : World} {b : Nat} {l : List UInt8}
theorem PB.below (h : PB w W b l) (hb : Below W.heap.size W W1) : PB w W1 b l:=⟨builderF_below h.bld hb,h.bel.trans (SHlower h.bel.size hb)⟩
theorem PB.alloc (h : PB w W b l) (o : Obj) : PB w (W.alloc o) b l:=h.below (below_alloc (Below.refl _ _) o)
theorem PB.size (h : PB w W b l) : w.heap.size ≤ W.heap.size:=h.bel.size
theorem PB.ne_of (h : PB w W b l) {k : Nat} {c : Array Value} {t : TypeId} {fz : Nat × Nat} (hk : W.heap[k]? = some (.cells c t fz)) (ht : t ≠ 53) : k ≠ b:=by
  rintro rfl
  rcases h.bld with ⟨_,v,hv,_⟩|⟨_,v,hv,_⟩ <;> (rw [hk] at hv;injection hv with hv;injection hv with _ h2;exact ht h2)
theorem PB.new (hw : Below w.heap.size w W) : PB w (W.alloc (.cells #[.pointer none,.slice none 0 0] 53)) W.heap.size []:=by
  refine ⟨.inl ⟨hw.size,.slice none 0 0,blk_new W _,World.ownsRowF_nil _ _ _ _,by simp [Value.ownBlock]⟩,below_alloc hw _⟩
theorem PB.writeS (h : PB w W b l) (s : ByteArray) (hl : l.length + s.size ≤ 140737488355328) :
    Calls Tryd.prog 17 #[.pointer (some ⟨b,0,none⟩),.string s] W fun e w' => ∃ v,e = .returned v ∧ PB w w' b (l ++ s.data.toList) ∧ Lib.OthersKept 5 (some b) W w':=by
  refine (Tryd.Builder_WriteString_k w.heap.size b _ s W h.bld (by rw [byteCells_length];exact hl) h.size).mono ?_
  rintro e w' ⟨rfl,hb,hw,hk⟩
  rw [strCells_eq,byteCells_append] at hb
  exact ⟨_,rfl,⟨.inr hb,h.bel.trans hw⟩,hk⟩
theorem PB.writeB (h : PB w W b l) (c : UInt8) (ci : Int) (hc : ci = (c.toNat : Int)) (hl : l.length + 1 ≤ 140737488355328) :
    Calls Tryd.prog 16 #[.pointer (some ⟨b,0,none⟩),.int .u8 ci] W fun e w' => e = .returned .nilIface ∧ PB w w' b (l ++ [c]) ∧ Lib.OthersKept 5 (some b) W w':=by
  subst hc
  refine (Tryd.Builder_WriteByte_k w.heap.size b _ (c.toNat : Int) W h.bld (by rw [byteCells_length];exact hl) h.size).mono ?_
  rintro e w' ⟨rfl,hb,hw,hk⟩
  rw [show Lib.byteCells l ++ [Value.int .u8 (c.toNat : Int)] = Lib.byteCells (l ++ [c]) by simp [Lib.byteCells]] at hb
  exact ⟨rfl,⟨.inr hb,h.bel.trans hw⟩,hk⟩
theorem PB.len (h : PB w W b l) : Calls Tryd.prog 20 #[.pointer (some ⟨b,0,none⟩)] W fun e w' => e = .returned (.int .i64 (l.length : Int)) ∧ w' = W:=by
  have:=Tryd.Builder_Len_f w.heap.size b _ W h.bld
  rwa [byteCells_length] at this
theorem PB.string (h : PB w W b l) : Calls Tryd.prog 21 #[.pointer (some ⟨b,0,none⟩)] W fun e w' => e = .returned (.string ⟨l.toArray⟩) ∧ Below w.heap.size w w':=by
  refine (Tryd.Builder_String_any_k w.heap.size b l W h.bld h.size).mono ?_
  rintro e w' ⟨rfl,_,hw,_⟩
  exact ⟨rfl,h.bel.trans hw⟩
end
end Go.Proofs.YtifigmamaakigaaDoor.V

