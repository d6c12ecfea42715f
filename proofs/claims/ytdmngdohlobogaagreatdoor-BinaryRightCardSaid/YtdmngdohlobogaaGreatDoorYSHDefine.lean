import Derived.Test.YtdmngdohlobogaaGreatDoorYM5
set_option linter.unusedSimpArgs false
namespace Go.Proofs.YtdmngdohlobogaaGreatDoor.Asc
open Go Go.RowKit Go.Proofs.YtdmngdohlobogaaGreatDoorW.PrintWords Go.Proofs.YtdmngdohlobogaaGreatDoorW.PrintLast Go.Proofs.YtdmngdohlobogaaGreatDoorW.PrintMore
set_option linter.unusedVariables false
theorem and_one (l : Int) (h0 : 0 ≤ l) (h1 : l ≤ 9223372036854775807) : bits .and .i64 l 1 = l % 2 :=
 bits_mask .i64 63 (by decide) (fun n a b => by rw [IntKind.wrap_i64];omega) 1 (by decide) l h0 (by omega)
def defineF (mx : Int) (by_ : List S40) (l : Int) (m : S40) : Int × List S40 :=
 if l < 2 ∨ bits .and .i64 l 1 = 1 ∨ l > 2 * mx then (30,by_)
 else if (by_.getD (l / 2).toNat z40).f0 ≠ 0 then (31,by_)
 else (0,by_.set (l / 2).toNat m)
set_option maxHeartbeats 2000000 in
set_option maxRecDepth 100000 in
theorem define_calls (g b : Nat) (c : S65) (a : CA) (by_ : List S40) (l : Int) (m : S40) (w0 w : World) (hL : LK w g b c a by_) (hB : Below w0.heap.size w0 w) (hbb : w0.heap.size ≤ b) (hm0 : 0 ≤ c.f0) (hm1 : c.f0 ≤ 16384) (hn : (by_.length : Int) = c.f0 + 1) :
  Calls Tryz.prog 111 #[.pointer (some ⟨g,0,none⟩),.int .i64 l,.agg #[.int .i64 m.f0,.int .i64 m.f1]] w fun e w' => e = .returned (.int .i64 (defineF c.f0 by_ l m).1) ∧ LK w' g b c a (defineF c.f0 by_ l m).2 ∧ Below w0.heap.size w0 w' ∧ KB w w' b:=by
 have hu150:=Tryz.underlying127
 have hu65:=Tryz.underlying29
 have hu169:=Tryz.underlying154
 have f0 : w.cell? ⟨g,0,none⟩ = some (.int .i64 c.f0):=(hL.cell 0).trans rfl
 have f11 : w.cell? ⟨g,11,none⟩ = some (.slice (some ⟨b,0,none⟩) by_.length by_.length):=(hL.cell 11).trans rfl
 have hgl : g < w.heap.size:=(Array.getElem?_eq_some_iff.1 hL.blk).1
 have hbl : b < w.heap.size:=hL.row.lt
 have HL:=A0_.mk hL
 have HB:=A0_.mk hB
 clear hL hB
 unfold defineF
 by_cases c1 : l < 2
 ·rw [if_pos (.inl c1)]
  have c1b : decide (l < 2) = true:=decide_eq_true c1
  go_enter Tryz.func111,Tryz.ntmps111
  go_wp2
  repeat (go_quiet (fail);try go_wp2)
  go_ret
  exact ⟨rfl,HL.out.below (eA_ (Below.refl _ _) _),eA_ HB.out _,(KB.refl _ _).alloc _⟩
 ·have c1b : decide (l < 2) = false:=decide_eq_false c1
  by_cases c2 : bits .and .i64 l 1 = 1
  ·rw [if_pos (.inr (.inl c2))]
   have c2b : (bits .and .i64 l 1 == 1) = true:=beq_iff_eq.mpr c2
   clear hn hm0 hm1 c1 c2
   go_enter Tryz.func111,Tryz.ntmps111
   go_wp2
   repeat (go_quiet (fail);try go_wp2)
   go_ret
   exact ⟨rfl,HL.out.below (eA_ (Below.refl _ _) _),eA_ HB.out _,(KB.refl _ _).alloc _⟩
  ·have c2b : (bits .and .i64 l 1 == 1) = false:=beq_eq_false_iff_ne.mpr c2
   have hw : IntKind.i64.wrap (2 * c.f0) = 2 * c.f0:=by rw [IntKind.wrap_i64];omega
   by_cases c3 : l > 2 * c.f0
   ·rw [if_pos (.inr (.inr c3))]
    have c3b : decide (2 * c.f0 < l) = true:=decide_eq_true c3
    go_enter Tryz.func111,Tryz.ntmps111
    go_wp2
    repeat (go_quiet (fail);try go_wp2)
    go_ret
    exact ⟨rfl,HL.out.below (eA_ (Below.refl _ _) _),eA_ HB.out _,(KB.refl _ _).alloc _⟩
   ·rw [if_neg (fun h => h.elim c1 (fun h => h.elim c2 c3))]
    have c3b : decide (2 * c.f0 < l) = false:=decide_eq_false c3
    obtain ⟨i,hi⟩ : ∃ i : Nat,l / 2 = (i : Int):=⟨(l / 2).toNat,by omega⟩
    rw [hi,Int.toNat_natCast]
    have hil : i < by_.length:=by omega
    obtain ⟨g0,g1⟩:=HL.out.row.cells i hil
    rw [List.getD_eq_getElem?_getD,List.getElem?_eq_getElem hil,Option.getD_some]
    have hi0 : (0 ≤ (i : Int)) = True:=eq_true (by omega)
    have hi1 : ((i : Int) < (by_.length : Int)) = True:=eq_true (by omega)
    clear hn hm0 hm1 c1 c2 c3
    by_cases c4 : by_[i].f0 = 0
    ·rw [if_neg (fun h => h c4)]
     have c4b : (by_[i].f0 == 0) = true:=beq_iff_eq.mpr c4
     go_enter Tryz.func111,Tryz.ntmps111
     go_wp2
     repeat (go_quiet (fail);try go_wp2)
     have e0 : (w.alloc (.cells #[.int .i64 m.f0,.int .i64 m.f1] 154)).cell? ⟨g,11,none⟩ = some (.slice (some ⟨b,0,none⟩) by_.length by_.length):=(bC_ (bA_ HL.out.blk _) 11).trans rfl
     have e1 : (w.alloc (.cells #[.int .i64 m.f0,.int .i64 m.f1] 154)).cell? ⟨w.heap.size,0,none⟩ = some (.int .i64 m.f0):=(bC_ (blk_new w _) 0).trans rfl
     have e2 : (w.alloc (.cells #[.int .i64 m.f0,.int .i64 m.f1] 154)).cell? ⟨w.heap.size,1,none⟩ = some (.int .i64 m.f1):=(bC_ (blk_new w _) 1).trans rfl
     refine wp_normal' ?_
     refine start_ (n:=9) (S:=fun w' => w'.cell? ⟨g,11,none⟩ = some (.slice (some ⟨b,0,none⟩) by_.length by_.length) ∧ w'.cell? ⟨w.heap.size,0,none⟩ = some (.int .i64 m.f0) ∧ w'.cell? ⟨w.heap.size,1,none⟩ = some (.int .i64 m.f1)) (ds:=[8]) (Array.replicate 9 false) (by kernel_rfl) rfl rfl ⟨e0,e1,e2⟩ (fun hHeld => ?_)
     refine pure_ (i:=0) (N:=some 34) (v:=?_) (a':=?_) (zA_ 9 1) rfl rfl (by kernel_rfl) (fun _ _ _ h => by cases h.1) (Or.inl ⟨by rfl,?_⟩) ?_ ?_
     rotate_left
     ·intro w'
      go_simp
      with_reducible rfl
     rotate_left
     ·simp only [Act.put,sA_,sB_,sC_]
      rfl
     refine pure_ (i:=1) (N:=some 35) (v:=?_) (a':=?_) (zA_ 9 3) rfl rfl (by kernel_rfl) (fun _ _ _ h => by cases h.1) (Or.inl ⟨by rfl,?_⟩) ?_ ?_
     rotate_left
     ·intro w'
      go_simp
      with_reducible rfl
     rotate_left
     ·simp only [Act.put,sA_,sB_,sC_]
      rfl
     refine pure_ (i:=2) (N:=some 36) (v:=?_) (a':=?_) (zA_ 9 7) rfl rfl (by kernel_rfl) (fun _ _ _ h => by cases h.1) (Or.inl ⟨by rfl,?_⟩) ?_ ?_
     rotate_left
     ·intro w'
      go_simp
      with_reducible rfl
     rotate_left
     ·simp only [Act.put,sA_,sB_,sC_]
      rfl
     refine take_ (i:=3) (N:=some 37) (v:=?_) (a':=?_) (zA_ 9 15) rfl rfl (by kernel_rfl) (fun _ _ _ h => by cases h.1) (Or.inl ⟨by rfl,?_⟩) hHeld ?_ ?_
     rotate_left
     ·intro w' s0
      obtain ⟨s0_,s1_,s2_⟩:=s0
      go_simp
      with_reducible rfl
     rotate_left
     ·simp only [Act.put,sA_,sB_,sC_]
      rfl
     refine pure_ (i:=4) (N:=some 38) (v:=?_) (a':=?_) (zA_ 9 31) rfl rfl (by kernel_rfl) (fun _ _ _ h => by cases h.1) (Or.inl ⟨by rfl,?_⟩) ?_ ?_
     rotate_left
     ·intro w'
      go_simp
      with_reducible rfl
     rotate_left
     ·simp only [Act.put,sA_,sB_,sC_]
      rfl
     refine pure_ (i:=5) (N:=some 39) (v:=?_) (a':=?_) (zA_ 9 63) rfl rfl (by kernel_rfl) (fun _ _ _ h => by cases h.1) (Or.inl ⟨by rfl,?_⟩) ?_ ?_
     rotate_left
     ·intro w'
      go_simp
      with_reducible rfl
     rotate_left
     ·simp only [Act.put,sA_,sB_,sC_]
      rfl
     refine take_ (i:=6) (N:=some 40) (v:=?_) (a':=?_) (zA_ 9 127) rfl rfl (by kernel_rfl) (fun _ _ _ h => by cases h.1) (Or.inl ⟨by rfl,?_⟩) hHeld ?_ ?_
     rotate_left
     ·intro w' s0
      obtain ⟨s0_,s1_,s2_⟩:=s0
      go_simp
      with_reducible rfl
     rotate_left
     ·simp only [Act.put,sA_,sB_,sC_]
      rfl
     refine pure_ (i:=7) (N:=some 41) (v:=?_) (a':=?_) (zA_ 9 255) rfl rfl (by kernel_rfl) (fun _ _ _ h => by cases h.1) (Or.inl ⟨by rfl,?_⟩) ?_ ?_
     rotate_left
     ·intro w'
      go_simp
      with_reducible rfl
     rotate_left
     ·simp only [Act.put,sA_,sB_,sC_]
      rfl
     have hLd : LK (w.alloc (.cells #[.int .i64 m.f0,.int .i64 m.f1] 154)).drew g b c a by_:=HL.out.below (below_drew (eA_ (Below.refl _ _) _))
     have hBd : Below w0.heap.size w0 (w.alloc (.cells #[.int .i64 m.f0,.int .i64 m.f1] 154)).drew:=below_drew (eA_ HB.out _)
     have hKd : KB w (w.alloc (.cells #[.int .i64 m.f0,.int .i64 m.f1] 154)).drew b:=((KB.refl _ _).alloc _).drew
     generalize (w.alloc (.cells #[.int .i64 m.f0,.int .i64 m.f1] 154)).drew = wd at hHeld hLd hBd hKd ⊢
     obtain ⟨k0,k1⟩:=hLd.row.cells i hil
     have k2:=hLd.row.frozen (i * 2)
     have k3:=hLd.row.frozen (i * 2 + 1)
     refine last_ (i:=8) (N:=none) (zA_ 9 511) rfl rfl (by kernel_rfl) (by decide) (fun K hK => ?_)
     refine skip_ (w1:=(wd.setCell ⟨b,i * 2,none⟩ (.int .i64 m.f0)).setCell ⟨b,i * 2 + 1,none⟩ (.int .i64 m.f1)) rfl rfl ?_ ?_
     ·go_simp
     refine hK.out _ _ ?_
     clear hK K
     refine done_ (by kernel_rfl) ⟨rfl,?_⟩
     rename_i hKK
     refine hKK _ _ ?_
     go_wp2
     repeat (go_quiet (fail);try go_wp2)
     go_ret
     refine ⟨rfl,⟨?_,?_⟩,eS_ (eS_ hBd hbb) hbb,(hKd.set _ _).set _ _⟩
     ·rw [List.length_set]
      exact blk_far (p:=⟨b,i * 2 + 1,none⟩) (blk_far (p:=⟨b,i * 2,none⟩) hLd.blk hLd.ne _) hLd.ne _
     ·exact hLd.row.put i hil m
    ·rw [if_pos c4]
     have c4b : (by_[i].f0 == 0) = false:=beq_eq_false_iff_ne.mpr c4
     go_enter Tryz.func111,Tryz.ntmps111
     go_wp2
     repeat (go_quiet (fail);try go_wp2)
     go_ret
     exact ⟨rfl,HL.out.below (eA_ (Below.refl _ _) _),eA_ HB.out _,(KB.refl _ _).alloc _⟩
end Go.Proofs.YtdmngdohlobogaaGreatDoor.Asc

