import Derived.Test.YtojepjkpnponoaaDoorFStim0
import Derived.Test.YtojepjkpnponoaaDoorFGV
import Derived.Test.YtojepjkpnponoaaDoorFShelf
import Derived.Test.YtojepjkpnponoaaDoorFGItoa
set_option linter.unusedSimpArgs false
namespace Go.Proofs.YtojepjkpnponoaaDoor.Stim
open Go Go.RowKit Go.Proofs.YtojepjkpnponoaaDoorW.PrintWords Go.Proofs.YtojepjkpnponoaaDoorW.PrintLast Go.Proofs.YtojepjkpnponoaaDoorW.PrintMore
set_option linter.unusedVariables false
structure PB (w W : World) (cs : Array Value) (b : Nat) (l : List UInt8) : Prop where
  bld : Lib.IsBuilderF 76 5 w.heap.size b (Lib.byteCells l) W
  wit : W.heap[w.heap.size]? = some (.cells cs 28 (0,0))
  bel : Below w.heap.size w W
theorem byteCells_length (l : List UInt8) : (Lib.byteCells l).length = l.length:=by simp [Lib.byteCells]
theorem strCells_eq (s : ByteArray) : Lib.strCells s = Lib.byteCells s.data.toList:=by simp [Lib.strCells,Lib.byteCells]
theorem byteCells_append (l m : List UInt8) : Lib.byteCells l ++ Lib.byteCells m = Lib.byteCells (l ++ m):=by simp [Lib.byteCells]
theorem builderF_below {T e B b : Nat} {bs : List Value} {W W1 : World} (h : Lib.IsBuilderF T e B b bs W) (hb : Below W.heap.size W W1) : Lib.IsBuilderF T e B b bs W1:=by
  have go : ∀ p,Lib.BuilderAtF T e B b p bs W → Lib.BuilderAtF T e B b p bs W1:=by
    rintro p ⟨hB,v,hv,ho,hne⟩
    refine ⟨hB,v,blk_below hv hb,ho.kept (grown_of_below hb none) ?_,hne⟩
    cases hk : v.ownBlock with
    | none => exact .inl rfl
    | some k => exact .inr (by simp)
  exact h.elim (fun x => .inl (go _ x)) (fun x => .inr (go _ x))
section
variable {w W W1 : World} {cs : Array Value} {b : Nat} {l : List UInt8}
theorem PB.below (h : PB w W cs b l) (hb : Below W.heap.size W W1) : PB w W1 cs b l:=⟨builderF_below h.bld hb,blk_below h.wit hb,h.bel.trans (hb.mono h.bel.size)⟩
theorem PB.alloc (h : PB w W cs b l) (o : Obj) : PB w (W.alloc o) cs b l:=h.below (eA_ (Below.refl _ _) o)
theorem PB.size (h : PB w W cs b l) : w.heap.size ≤ W.heap.size:=h.bel.size
theorem PB.ne (h : PB w W cs b l) : w.heap.size ≠ b:=by
  rintro rfl
  rcases h.bld with ⟨_,v,hv,_⟩|⟨_,v,hv,_⟩ <;> (rw [h.wit] at hv;injection hv with hv;injection hv with _ h2;cases h2)
theorem PB.ne_of (h : PB w W cs b l) {k : Nat} {c : Array Value} {t : TypeId} {fz : Nat × Nat} (hk : W.heap[k]? = some (.cells c t fz)) (ht : t ≠ 76) : k ≠ b:=by
  rintro rfl
  rcases h.bld with ⟨_,v,hv,_⟩|⟨_,v,hv,_⟩ <;> (rw [hk] at hv;injection hv with hv;injection hv with _ h2;exact ht h2)
theorem PB.kept {l' : List UInt8} (h : PB w W cs b l) (hb : Lib.BuilderAtF 76 5 w.heap.size b (.pointer (some ⟨b,0,none⟩)) (Lib.byteCells l') W1) (hw : Below w.heap.size W W1) (hk : Lib.OthersKept 5 (some b) W W1) : PB w W1 cs b l':=by
  refine ⟨.inr hb,hk _ _ h.wit (fun e => h.ne (by injection e)) (fun c fz e => by injection e with _ e;cases e),?_⟩
  exact h.bel.trans hw
theorem PB.new (hw : Below w.heap.size w W) (hk : W.heap[w.heap.size]? = some (.cells cs 28 (0,0))) : PB w (W.alloc (.cells #[.pointer none,.slice none 0 0] 76)) cs W.heap.size []:=by
  refine ⟨.inl ⟨hw.size,.slice none 0 0,blk_new W _,World.ownsRowF_nil _ _ _ _,by simp [Value.ownBlock]⟩,bA_ hk _,eA_ hw _⟩
theorem PB.writeS (h : PB w W cs b l) (s : ByteArray) (hl : l.length + s.size ≤ 140737488355328) :
    Calls Tryd.prog 33 #[.pointer (some ⟨b,0,none⟩),.string s] W fun e w' => ∃ v,e = .returned v ∧ PB w w' cs b (l ++ s.data.toList) ∧ Lib.OthersKept 5 (some b) W w':=by
  refine (Tryd.Builder_WriteString_k w.heap.size b _ s W h.bld (by rw [byteCells_length];exact hl) h.size).mono ?_
  rintro e w' ⟨rfl,hb,hw,hk⟩
  rw [strCells_eq,byteCells_append] at hb
  exact ⟨_,rfl,h.kept hb hw hk,hk⟩
theorem PB.writeB (h : PB w W cs b l) (c : UInt8) (ci : Int) (hc : ci = (c.toNat : Int)) (hl : l.length + 1 ≤ 140737488355328) :
    Calls Tryd.prog 35 #[.pointer (some ⟨b,0,none⟩),.int .u8 ci] W fun e w' => e = .returned .nilIface ∧ PB w w' cs b (l ++ [c]) ∧ Lib.OthersKept 5 (some b) W w':=by
  subst hc
  refine (Tryd.Builder_WriteByte_k w.heap.size b _ (c.toNat : Int) W h.bld (by rw [byteCells_length];exact hl) h.size).mono ?_
  rintro e w' ⟨rfl,hb,hw,hk⟩
  rw [show Lib.byteCells l ++ [Value.int .u8 (c.toNat : Int)] = Lib.byteCells (l ++ [c]) by simp [Lib.byteCells]] at hb
  exact ⟨rfl,h.kept hb hw hk,hk⟩
theorem PB.len (h : PB w W cs b l) : Calls Tryd.prog 37 #[.pointer (some ⟨b,0,none⟩)] W fun e w' => e = .returned (.int .i64 (l.length : Int)) ∧ w' = W:=by
  have:=Tryd.Builder_Len_f w.heap.size b _ W h.bld
  rwa [byteCells_length] at this
theorem PB.string (h : PB w W cs b l) : Calls Tryd.prog 38 #[.pointer (some ⟨b,0,none⟩)] W fun e w' => e = .returned (.string ⟨l.toArray⟩) ∧ Below w.heap.size w w':=by
  refine (Tryd.Builder_String_any_k w.heap.size b l W h.bld h.size).mono ?_
  rintro e w' ⟨rfl,_,hw,_⟩
  exact ⟨rfl,h.bel.trans hw⟩
end
end Go.Proofs.YtojepjkpnponoaaDoor.Stim

