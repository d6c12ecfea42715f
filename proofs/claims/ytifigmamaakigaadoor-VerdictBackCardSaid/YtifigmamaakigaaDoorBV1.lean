import Derived.Test.YtifigmamaakigaaDoorProg
import Derived.Below
import Derived.Deep.Draws
import Derived.Deep.AppendLies
import Derived.Maps.AppendAt
import Derived.OwnWalk
import Derived.Laws.BytesArg
import Derived.Laws.MakeOwn
import Derived.Laws.OwnMore
import Derived.Deep.OwnRows
import Derived.Tactics
import Derived.Lib.ConvBytes
import Derived.Laws.Slices
import Derived.WalkKit
import Derived.KernelRfl
import Derived.RowKit3
import Derived.Deep.LoopGhost
import Derived.Deep.QuietTactic
import Derived.BigQuiet
import Derived.WideLaws
import Derived.Deep.DeepCutAuto
import Derived.Deep.CutBlock
import Derived.Deep.RegionHeld3
import Derived.Laws.Rows
import Derived.Lib.AppendStr
import Derived.ArgAppend
import Derived.Laws.IdiomCopy
import Derived.OrdersHeld
import Derived.Laws.BitsLemmas
import Derived.RowKit
import Derived.Test.YtifigmamaakigaaDoorBWords
import Derived.Test.YtifigmamaakigaaDoorBVPure
namespace Go.Proofs.YtifigmamaakigaaDoor.V
open Go Go.RowKit Go.Proofs.YtifigmamaakigaaDoorW.PrintWords Go.Proofs.YtifigmamaakigaaDoorW.PrintLast Go.Proofs.YtifigmamaakigaaDoorW.PrintMore
set_option linter.unusedVariables false
set_option linter.unusedSimpArgs false
theorem info31 : (Tryd.prog.info? 31).map (fun i => (i.zero,i.size,i.bytes)) = some (some (.agg #[(.int .u8 0),(.int .i64 0),(.string ⟨#[]⟩),(.int .i64 0),(.int .i64 0)]),5,48):=by kernel_rfl
def zR : RW:=⟨0,0,⟨#[]⟩,0,0⟩
def rowV (x : RW) : Value:=.agg #[.int .u8 x.f0,.int .i64 x.f1,.string x.f2,.int .i64 x.f3,.int .i64 x.f4]
def kR : Kd RW:=Kd.iso (Kd.pair (Kd.int .u8) (Kd.pair (Kd.int .i64) (Kd.pair Kd.string (Kd.pair (Kd.int .i64) (Kd.int .i64))))) (fun x : RW => (x.f0,x.f1,x.f2,x.f3,x.f4))
theorem kR_open {w : World} {x : RW} {cs : List Value} (h : kR.K w x cs) : cs = [.int .u8 x.f0,.int .i64 x.f1,.string x.f2,.int .i64 x.f3,.int .i64 x.f4]:=by
  obtain ⟨_,_,rfl,rfl,⟨_,_,rfl,rfl,⟨_,_,rfl,rfl,⟨_,_,rfl,rfl,rfl⟩⟩⟩⟩:=h
  exact rfl
theorem kR_mk (w : World) (x : RW) : kR.K w x [.int .u8 x.f0,.int .i64 x.f1,.string x.f2,.int .i64 x.f3,.int .i64 x.f4]:=⟨[.int .u8 x.f0],[.int .i64 x.f1,.string x.f2,.int .i64 x.f3,.int .i64 x.f4],rfl,rfl,⟨[.int .i64 x.f1],[.string x.f2,.int .i64 x.f3,.int .i64 x.f4],rfl,rfl,⟨[.string x.f2],[.int .i64 x.f3,.int .i64 x.f4],rfl,rfl,⟨[.int .i64 x.f3],[.int .i64 x.f4],rfl,rfl,rfl⟩⟩⟩⟩
theorem kR_mkM (w : World) (base : Nat) (ok : Nat → Prop) (x : RW) : kR.M w base ok x [.int .u8 x.f0,.int .i64 x.f1,.string x.f2,.int .i64 x.f3,.int .i64 x.f4]:=⟨[.int .u8 x.f0],[.int .i64 x.f1,.string x.f2,.int .i64 x.f3,.int .i64 x.f4],rfl,rfl,⟨[.int .i64 x.f1],[.string x.f2,.int .i64 x.f3,.int .i64 x.f4],rfl,rfl,⟨[.string x.f2],[.int .i64 x.f3,.int .i64 x.f4],rfl,rfl,⟨[.int .i64 x.f3],[.int .i64 x.f4],rfl,rfl,rfl⟩⟩⟩⟩
theorem row_at {w : World} {A : Option Addr} {xs : List RW} (h : Kd.C kR w A xs.length xs) (n : Nat) (hn : n < xs.length) : ∃ ad,A = some ad ∧ w.cell? (ad.add (n * 5)) = some (.int .u8 xs[n].f0) ∧ w.cell? ⟨(ad.add (n * 5)).block,(ad.add (n * 5)).off + 1,none⟩ = some (.int .i64 xs[n].f1) ∧ w.cell? ⟨(ad.add (n * 5)).block,(ad.add (n * 5)).off + 2,none⟩ = some (.string xs[n].f2) ∧ w.cell? ⟨(ad.add (n * 5)).block,(ad.add (n * 5)).off + 3,none⟩ = some (.int .i64 xs[n].f3) ∧ w.cell? ⟨(ad.add (n * 5)).block,(ad.add (n * 5)).off + 4,none⟩ = some (.int .i64 xs[n].f4):=by
  obtain ⟨ad,e,hc⟩:=h.2.2 (by omega)
  obtain ⟨cs,h1,h2,h3⟩:=hc n _ (List.getElem?_eq_getElem hn)
  have h3 : ∀ i u,cs[i]? = some u → w.cell? (ad.add (n * 5 + i)) = some u:=h3
  obtain rfl:=kR_open h2
  exact ⟨ad,e,h3 0 _ rfl,by rw [← add_field _ _ 1 (by omega)];exact h3 1 _ rfl,by rw [← add_field _ _ 2 (by omega)];exact h3 2 _ rfl,by rw [← add_field _ _ 3 (by omega)];exact h3 3 _ rfl,by rw [← add_field _ _ 4 (by omega)];exact h3 4 _ rfl⟩
def growW (w : World) (os : Array Obj) : World:={ w with heap:=w.heap ++ os }
theorem alloc_grow (w : World) (o : Obj) : w.alloc o = growW w #[o]:=by
  unfold World.alloc growW
  simp
theorem grow_grow (w : World) (os os' : Array Obj) : growW (growW w os) os' = growW w (os ++ os'):=by simp [growW,Array.append_assoc]
theorem alloc2_grow (w : World) (o o' : Obj) : (w.alloc o).alloc o' = growW w #[o,o']:=by rw [alloc_grow,alloc_grow,grow_grow];rfl
set_option maxHeartbeats 2000000 in
set_option maxRecDepth 100000 in
theorem order_calls {w : World} {a b : RW} (ha : 0 ≤ a.f0 ∧ a.f0 < 256) (hb : 0 ≤ b.f0 ∧ b.f0 < 256) (ha1 : 0 ≤ a.f1 ∧ a.f1 < 16384) (hb1 : 0 ≤ b.f1 ∧ b.f1 < 16384) :
    Calls Tryd.prog 15 #[.agg #[.int .u8 a.f0,.int .i64 a.f1],.agg #[.int .u8 b.f0,.int .i64 b.f1]] w fun e w' => e = .returned (.int .i64 (ordF a b)) ∧ ∃ os,w' = growW w os:=by
  have hu29:=Tryd.underlying29
  have w1 : IntKind.i64.wrap a.f0 = a.f0:=by rw [IntKind.wrap_i64];omega
  have w2 : IntKind.i64.wrap b.f0 = b.f0:=by rw [IntKind.wrap_i64];omega
  have w3 : IntKind.i64.wrap (a.f0 - b.f0) = a.f0 - b.f0:=by rw [IntKind.wrap_i64];omega
  have w4 : IntKind.i64.wrap (a.f1 - b.f1) = a.f1 - b.f1:=by rw [IntKind.wrap_i64];omega
  clear ha hb ha1 hb1
  unfold ordF
  by_cases c : a.f0 = b.f0
  · have cb : (a.f0 == b.f0) = true:=beq_iff_eq.mpr c
    rw [if_pos c]
    clear c
    go_enter Tryd.func15,Tryd.ntmps15
    go_wp2
    repeat (go_quiet (fail);try go_wp2)
    go_ret
    exact ⟨rfl,_,alloc2_grow _ _ _⟩
  · have cb : (a.f0 == b.f0) = false:=beq_eq_false_iff_ne.mpr c
    rw [if_neg c]
    clear c
    go_enter Tryd.func15,Tryd.ntmps15
    go_wp2
    repeat (go_quiet (fail);try go_wp2)
    go_ret
    exact ⟨rfl,_,alloc2_grow _ _ _⟩
set_option maxHeartbeats 2000000 in
set_option maxRecDepth 100000 in
theorem cmp_calls {w : World} {a b : RW} (ha : 0 ≤ a.f0 ∧ a.f0 < 256) (hb : 0 ≤ b.f0 ∧ b.f0 < 256) (ha1 : 0 ≤ a.f1 ∧ a.f1 < 16384) (hb1 : 0 ≤ b.f1 ∧ b.f1 < 16384) :
    Calls Tryd.prog 14 #[.agg #[.int .u8 a.f0,.int .i64 a.f1,.string a.f2,.int .i64 a.f3,.int .i64 a.f4],.agg #[.int .u8 b.f0,.int .i64 b.f1,.string b.f2,.int .i64 b.f3,.int .i64 b.f4]] w fun e w' => e = .returned (.int .i64 (ordF a b)) ∧ ∃ os,w' = growW w os:=by
  have hu29:=Tryd.underlying29
  have hu31:=Tryd.underlying31
  have OC:=Aside0.mk (order_calls (w:=(w.alloc (.cells #[.int .u8 a.f0,.int .i64 a.f1,.string a.f2,.int .i64 a.f3,.int .i64 a.f4] 31)).alloc (.cells #[.int .u8 b.f0,.int .i64 b.f1,.string b.f2,.int .i64 b.f3,.int .i64 b.f4] 31)) ha hb ha1 hb1)
  clear ha hb ha1 hb1
  go_enter Tryd.func14,Tryd.ntmps14
  go_wp2_with (first|((with_reducible refine gate_callee (f:=15) rfl ?_);refine goesL_ (some 9) rfl rfl Tryd.func15 (by kernel_rfl) rfl #[.agg #[.int .u8 a.f0,.int .i64 a.f1],.agg #[.int .u8 b.f0,.int .i64 b.f1]] rfl (by (try simp only [List.map_toArray,List.map_cons,List.map_nil]);first|done|rfl) ?_;(with_reducible refine (OC.out).mono ?_);rintro e w2 ⟨rfl,os,rfl⟩;refine ⟨_,rfl,?_⟩)|go_in)
  repeat (go_quiet (fail);try go_wp2)
  go_ret
  exact ⟨rfl,_,by rw [alloc2_grow,grow_grow]⟩
set_option maxHeartbeats 2000000 in
set_option maxRecDepth 100000 in
theorem more_calls {w : World} {a b : RW} :
    Calls Tryd.prog 12 #[.agg #[.int .u8 a.f0,.int .i64 a.f1,.string a.f2,.int .i64 a.f3,.int .i64 a.f4],.agg #[.int .u8 b.f0,.int .i64 b.f1,.string b.f2,.int .i64 b.f3,.int .i64 b.f4]] w fun e w' => e = .returned (.bool (decide (moreR a b))) ∧ Below w.heap.size w w':=by
  have hu31:=Tryd.underlying31
  by_cases c1 : b.f3 = 0
  · have c1b : (b.f3 == 0) = true:=beq_iff_eq.mpr c1
    by_cases c2 : a.f3 = 0
    · have c2b : (a.f3 == 0) = true:=beq_iff_eq.mpr c2
      have c2n : (a.f3 != 0) = false:=by rw [bne,c2b];rfl
      by_cases c3 : a.f4 > b.f4
      · have c3b : decide (a.f4 > b.f4) = true:=decide_eq_true c3
        have hv : decide (moreR a b) = true:=decide_eq_true ⟨c1,.inr c3⟩
        rw [hv]
        clear hv c1 c2 c3
        go_enter Tryd.func12,Tryd.ntmps12
        go_wp2
        repeat (go_quiet (fail);try go_wp2)
        go_ret
        exact ⟨rfl,below_alloc (below_alloc (Below.refl _ _) _) _⟩
      · have c3b : decide (a.f4 > b.f4) = false:=decide_eq_false c3
        have hv : decide (moreR a b) = false:=decide_eq_false (fun h => h.2.elim (fun h => h c2) c3)
        rw [hv]
        clear hv c1 c2 c3
        go_enter Tryd.func12,Tryd.ntmps12
        go_wp2
        repeat (go_quiet (fail);try go_wp2)
        go_ret
        exact ⟨rfl,below_alloc (below_alloc (Below.refl _ _) _) _⟩
    · have c2b : (a.f3 == 0) = false:=beq_eq_false_iff_ne.mpr c2
      have c2n : (a.f3 != 0) = true:=by rw [bne,c2b];rfl
      have hv : decide (moreR a b) = true:=decide_eq_true ⟨c1,.inl c2⟩
      rw [hv]
      clear hv c1 c2
      go_enter Tryd.func12,Tryd.ntmps12
      go_wp2
      repeat (go_quiet (fail);try go_wp2)
      go_ret
      exact ⟨rfl,below_alloc (below_alloc (Below.refl _ _) _) _⟩
  · have c1b : (b.f3 == 0) = false:=beq_eq_false_iff_ne.mpr c1
    have hv : decide (moreR a b) = false:=decide_eq_false (fun h => c1 h.1)
    rw [hv]
    clear hv c1
    go_enter Tryd.func12,Tryd.ntmps12
    go_wp2
    repeat (go_quiet (fail);try go_wp2)
    go_ret
    exact ⟨rfl,below_alloc (below_alloc (Below.refl _ _) _) _⟩
def propB (r : RW) : Bool:=(r.f0 == 98 || r.f0 == 106) && decide (0 ≤ r.f1) && decide (r.f1 < 16384)
set_option maxHeartbeats 2000000 in
set_option maxRecDepth 100000 in
theorem isProp_calls {w : World} {r : RW} : Calls Tryd.prog 36 #[.agg #[.int .u8 r.f0,.int .i64 r.f1]] w fun e w' => e = .returned (.bool (propB r)) ∧ Below w.heap.size w w':=by
  have hu29:=Tryd.underlying29
  unfold propB
  obtain ⟨b1,hb1⟩ : ∃ b,(r.f0 == 98) = b:=⟨_,rfl⟩
  obtain ⟨b2,hb2⟩ : ∃ b,(r.f0 == 106) = b:=⟨_,rfl⟩
  obtain ⟨b3,hb3⟩ : ∃ b,decide (0 ≤ r.f1) = b:=⟨_,rfl⟩
  obtain ⟨b4,hb4⟩ : ∃ b,decide (r.f1 < 16384) = b:=⟨_,rfl⟩
  rw [hb1,hb2,hb3,hb4]
  cases b1 <;> cases b2 <;> cases b3 <;> cases b4 <;> (go_enter Tryd.func36,Tryd.ntmps36;go_wp2;repeat (go_quiet (fail);try go_wp2)) <;> (go_ret;exact ⟨by simp,below_alloc (Below.refl _ _) _⟩)
end Go.Proofs.YtifigmamaakigaaDoor.V

