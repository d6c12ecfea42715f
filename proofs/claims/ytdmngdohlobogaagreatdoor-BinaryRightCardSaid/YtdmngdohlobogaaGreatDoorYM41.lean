import Derived.Test.YtdmngdohlobogaaGreatDoorYBRead
import Derived.Test.YtdmngdohlobogaaGreatDoorYM27
import Derived.Test.YtdmngdohlobogaaGreatDoorYM34
section
namespace Go.Proofs.YtdmngdohlobogaaGreatDoor.Asc
open Go Go.RowKit Go.Proofs.YtdmngdohlobogaaGreatDoorW.PrintWords Go.Proofs.YtdmngdohlobogaaGreatDoorW.PrintLast Go.Proofs.YtdmngdohlobogaaGreatDoorW.PrintMore
set_option linter.unusedVariables false
set_option linter.unusedSimpArgs false
def exB1 : ByteArray:=⟨#[97,105,103,32,51,32,50,32,48,32,49,32,49,10,55,10,2,2]⟩
def exB2 : ByteArray:=⟨#[97,105,103,32,51,32,50,32,48,32,48,32,49,10,0,2]⟩
theorem exB1_read : readB exB1 = (⟨3,[2,4],[],[7],[],[],[],[],[⟨6,4,2⟩],[],[]⟩,0,0):=by kernel_rfl
theorem exB2_read : readB exB2 = (x0S,14,52):=by kernel_rfl
theorem ownB_form {α : Type} {d : Kd α} {e : Nat} {W : World} {base : Nat} {ok : Nat → Prop} {v : Value} {xs : List α} (h : d.R e W base ok v xs) (h0 : 0 < xs.length) : ∃ g c,v = .slice (some ⟨g,0,none⟩) xs.length c:=by
 obtain ⟨inner,ho⟩:=Kd.R_own h
 rcases ho.2 with ⟨_,h1⟩|⟨g,cap,cur,rfl,_⟩
 ·omega
 ·exact ⟨g,cap,rfl⟩
theorem and_cells {W : World} {base : Nat} {ok : Nat → Prop} {A : Option Addr} {n c : Nat} {x : S125} (h : k125.R 75 W base ok (.slice A n c) [x]) : ∃ g,A = some ⟨g,0,none⟩ ∧ W.cell? ⟨g,0,none⟩ = some (.int .i64 x.f0) ∧ W.cell? ⟨g,1,none⟩ = some (.int .i64 x.f1) ∧ W.cell? ⟨g,2,none⟩ = some (.int .i64 x.f2):=by
 obtain ⟨g,c',he⟩:=ownB_form h (Nat.lt_succ_self 0)
 injection he with he _ _
 subst he
 obtain ⟨ad,ea,h0,h1,h2⟩:=C_and_get (Kd.R_reads' h).2.2 0 (Nat.lt_succ_self 0)
 injection ea with ea
 subst ea
 simp only [Nat.zero_mul,add_plain,Nat.zero_add] at h0 h1 h2
 exact ⟨g,rfl,h0,h1,h2⟩
theorem intB_cell {W : World} {base : Nat} {ok : Nat → Prop} {A : Option Addr} {n c : Nat} {x : Int} (h : (Kd.int .i64).R 3 W base ok (.slice A n c) [x]) : ∃ g,A = some ⟨g,0,none⟩ ∧ W.cell? ⟨g,0,none⟩ = some (.int .i64 x):=by
 obtain ⟨g,c',he,_,hc⟩:=row_some h (Nat.lt_succ_self 0)
 injection he with he _ _
 exact ⟨g,he,hc 0 (Nat.lt_succ_self 0)⟩
set_option maxHeartbeats 4000000 in
set_option maxRecDepth 100000 in
theorem worksB_calls {w : World} (hG : GV w) : Calls Tryz.prog 11 #[] w fun e w' => e = .returned (.bool true) ∧ Below w.heap.size w w':=by
 have hR1:=readB_calls (s:=exB1) hG (by decide)
 rw [exB1_read] at hR1
 unfold ReadEnd exB1 at hR1
 dsimp only at hR1
 have HR1:=A0_.mk hR1
 have HG:=A0_.mk hG
 clear hR1 hG
 go_enter Tryz.func11,Tryz.ntmps11
 go_upto_region 2 with (first|(go_at_call 7;refine HR1.out.mono ?_;rintro e w1 ⟨v,rfl,hrows,hb⟩;obtain ⟨v1,v2,v3,v4,v5,v6,v7,v8,v9,v10⟩:=v;obtain ⟨A1_,n1_,rfl⟩:=Kd.R_slice (CRows.r1 hrows);obtain ⟨A2_,n2_,rfl⟩:=Kd.R_slice (CRows.r2 hrows);obtain ⟨A3_,n3_,rfl⟩:=Kd.R_slice (CRows.r3 hrows);obtain ⟨A4_,n4_,rfl⟩:=Kd.R_slice (CRows.r4 hrows);obtain ⟨A5_,n5_,rfl⟩:=Kd.R_slice (CRows.r5 hrows);obtain ⟨A6_,n6_,rfl⟩:=Kd.R_slice (CRows.r6 hrows);obtain ⟨A7_,n7_,rfl⟩:=Kd.R_slice (CRows.r7 hrows);obtain ⟨A8_,n8_,rfl⟩:=Kd.R_slice (CRows.r8 hrows);obtain ⟨A9_,n9_,rfl⟩:=Kd.R_slice (CRows.r9 hrows);obtain ⟨A10_,n10_,rfl⟩:=Kd.R_slice (CRows.r10 hrows);dsimp only [cellsV];have HROW:=A0_.mk hrows;have HB1:=A0_.mk hb;clear hrows hb))
 have hb1:=blk_new w1 (.cells #[.int .i64 3,.slice A1_ 2 n1_,.slice A2_ 0 n2_,.slice A3_ 1 n3_,.slice A4_ 0 n4_,.slice A5_ 0 n5_,.slice A6_ 0 n6_,.slice A7_ 0 n7_,.slice A8_ 1 n8_,.slice A9_ 0 n9_,.slice A10_ 0 n10_] 29)
 have hb2:=blk_new (w1.alloc (.cells #[.int .i64 3,.slice A1_ 2 n1_,.slice A2_ 0 n2_,.slice A3_ 1 n3_,.slice A4_ 0 n4_,.slice A5_ 0 n5_,.slice A6_ 0 n6_,.slice A7_ 0 n7_,.slice A8_ 1 n8_,.slice A9_ 0 n9_,.slice A10_ 0 n10_] 29)) (.cells #[.int .i64 0,.int .i64 0] 32)
 simp only [World.size_alloc] at hb2
 have hb1:=bA_ hb1 (.cells #[.int .i64 0,.int .i64 0] 32)
 have hbe : Below w1.heap.size w1 ((w1.alloc (.cells #[.int .i64 3,.slice A1_ 2 n1_,.slice A2_ 0 n2_,.slice A3_ 1 n3_,.slice A4_ 0 n4_,.slice A5_ 0 n5_,.slice A6_ 0 n6_,.slice A7_ 0 n7_,.slice A8_ 1 n8_,.slice A9_ 0 n9_,.slice A10_ 0 n10_] 29)).alloc (.cells #[.int .i64 0,.int .i64 0] 32)):=eA_ (eA_ (Below.refl _ _) _) _
 obtain ⟨g8,e8,y80,y81,y82⟩:=and_cells HROW.out.r8
 obtain ⟨g3,e3,y30⟩:=intB_cell HROW.out.r3
 subst e8
 subst e3
 replace y80:=pw_cell_below hbe y80
 replace y81:=pw_cell_below hbe y81
 replace y82:=pw_cell_below hbe y82
 replace y30:=pw_cell_below hbe y30
 have hB2:=HB1.out.trans (hbe.mono HB1.out.size)
 clear hbe HROW
 generalize hw2 : (w1.alloc (.cells #[.int .i64 3,.slice A1_ 2 n1_,.slice A2_ 0 n2_,.slice (some ⟨g3,0,none⟩) 1 n3_,.slice A4_ 0 n4_,.slice A5_ 0 n5_,.slice A6_ 0 n6_,.slice A7_ 0 n7_,.slice (some ⟨g8,0,none⟩) 1 n8_,.slice A9_ 0 n9_,.slice A10_ 0 n10_] 29)).alloc (.cells #[.int .i64 0,.int .i64 0] 32) = w2 at hb1 hb2 y80 y81 y82 y30 hB2 ⊢
 clear hw2 HB1
 have hR2:=readB_calls (s:=exB2) (GV_below HG.out hB2) (by decide)
 rw [exB2_read] at hR2
 unfold ReadEnd exB2 at hR2
 dsimp only [x0S] at hR2
 have HR2:=A0_.mk hR2
 have HB2:=A0_.mk hB2
 generalize w1.heap.size = b1 at hb1 hb2 ⊢
 have K1:=A0_.mk hb1
 have K2:=A0_.mk hb2
 have Y0:=A0_.mk y80
 have Y1:=A0_.mk y81
 have Y2:=A0_.mk y82
 have Y4:=A0_.mk y30
 clear hR2 hB2 hb1 hb2 y80 y81 y82 y30
 go_upto_region 3 with (first|(go_at_call 7;refine HR2.out.mono ?_;rintro e w3 ⟨v,rfl,hrows,hb⟩;obtain ⟨v1,v2,v3,v4,v5,v6,v7,v8,v9,v10⟩:=v;obtain ⟨A1q,n1q,rfl⟩:=Kd.R_slice (CRows.r1 hrows);obtain ⟨A2q,n2q,rfl⟩:=Kd.R_slice (CRows.r2 hrows);obtain ⟨A3q,n3q,rfl⟩:=Kd.R_slice (CRows.r3 hrows);obtain ⟨A4q,n4q,rfl⟩:=Kd.R_slice (CRows.r4 hrows);obtain ⟨A5q,n5q,rfl⟩:=Kd.R_slice (CRows.r5 hrows);obtain ⟨A6q,n6q,rfl⟩:=Kd.R_slice (CRows.r6 hrows);obtain ⟨A7q,n7q,rfl⟩:=Kd.R_slice (CRows.r7 hrows);obtain ⟨A8q,n8q,rfl⟩:=Kd.R_slice (CRows.r8 hrows);obtain ⟨A9q,n9q,rfl⟩:=Kd.R_slice (CRows.r9 hrows);obtain ⟨A10q,n10q,rfl⟩:=Kd.R_slice (CRows.r10 hrows);dsimp only [cellsV];have HBB:=A0_.mk hb;clear hrows hb))
 have hf:=blk_new (w3.alloc (.cells #[.int .i64 0,.slice A1q 0 n1q,.slice A2q 0 n2q,.slice A3q 0 n3q,.slice A4q 0 n4q,.slice A5q 0 n5q,.slice A6q 0 n6q,.slice A7q 0 n7q,.slice A8q 0 n8q,.slice A9q 0 n9q,.slice A10q 0 n10q] 29)) (.cells #[.int .i64 14,.int .i64 52] 32)
 simp only [World.size_alloc] at hf
 have hbe : Below w3.heap.size w3 ((w3.alloc (.cells #[.int .i64 0,.slice A1q 0 n1q,.slice A2q 0 n2q,.slice A3q 0 n3q,.slice A4q 0 n4q,.slice A5q 0 n5q,.slice A6q 0 n6q,.slice A7q 0 n7q,.slice A8q 0 n8q,.slice A9q 0 n9q,.slice A10q 0 n10q] 29)).alloc (.cells #[.int .i64 14,.int .i64 52] 32)):=eA_ (eA_ (Below.refl _ _) _) _
 have hbb:=HBB.out.trans (hbe.mono HBB.out.size)
 have hB4:=HB2.out.trans (hbb.mono HB2.out.size)
 have x1:=pw_cell_below hbb (show w2.cell? ⟨b1,1,none⟩ = some (.slice A1_ 2 n1_) from bC_ K1.out 1)
 have x3:=pw_cell_below hbb (show w2.cell? ⟨b1,3,none⟩ = some (.slice (some ⟨g3,0,none⟩) 1 n3_) from bC_ K1.out 3)
 have x8:=pw_cell_below hbb (show w2.cell? ⟨b1,8,none⟩ = some (.slice (some ⟨g8,0,none⟩) 1 n8_) from bC_ K1.out 8)
 have f0:=pw_cell_below hbb (show w2.cell? ⟨b1 + 1,0,none⟩ = some (.int .i64 0) from bC_ K2.out 0)
 have f1:=pw_cell_below hbb (show w2.cell? ⟨b1 + 1,1,none⟩ = some (.int .i64 0) from bC_ K2.out 1)
 have y80:=pw_cell_below hbb (show w2.cell? ⟨g8,0,none⟩ = some (.int .i64 6) from Y0.out)
 have y81:=pw_cell_below hbb (show w2.cell? ⟨g8,1,none⟩ = some (.int .i64 4) from Y1.out)
 have y82:=pw_cell_below hbb (show w2.cell? ⟨g8,2,none⟩ = some (.int .i64 2) from Y2.out)
 have y30:=pw_cell_below hbb Y4.out
 have z0:=bC_ hf 0
 have z1:=bC_ hf 1
 have HB4:=A0_.mk hB4
 clear hf hbe hbb hB4
 generalize (w3.alloc (.cells #[.int .i64 0,.slice A1q 0 n1q,.slice A2q 0 n2q,.slice A3q 0 n3q,.slice A4q 0 n4q,.slice A5q 0 n5q,.slice A6q 0 n6q,.slice A7q 0 n7q,.slice A8q 0 n8q,.slice A9q 0 n9q,.slice A10q 0 n10q] 29)).alloc (.cells #[.int .i64 14,.int .i64 52] 32) = w4 at x1 x3 x8 f0 f1 y80 y81 y82 y30 z0 z1 HB4 ⊢
 generalize w3.heap.size = b3 at z0 z1 ⊢
 go_wp2
 go_ret
 exact ⟨rfl,HB4.out⟩
end Go.Proofs.YtdmngdohlobogaaGreatDoor.Asc
end
section
namespace Go.Proofs.YtdmngdohlobogaaGreatDoor.Asc
open Go Go.RowKit Go.Proofs.YtdmngdohlobogaaGreatDoorW.PrintWords Go.Proofs.YtdmngdohlobogaaGreatDoorW.PrintLast Go.Proofs.YtdmngdohlobogaaGreatDoorW.PrintMore
set_option linter.unusedVariables false
set_option linter.unusedSimpArgs false
attribute [local go_sem high] eqA40
theorem readEnd_ok {c x : S65} {t : List S59 × List ByteArray × Int × Int} {a : Int} (h : readEnd c t = (x,a,0)) : x = { c with f9:=t.1,f10:=t.2.1 } ∧ (lookF x).2 = 0:=by
 unfold readEnd at h
 split at h
 ·rename_i h1
  injection h with _ h
  injection h with _ h
  exact absurd h h1
 ·split at h
  ·rename_i h1
   injection h with _ h
   injection h with _ h
   exact absurd h h1
  ·rename_i h1
   injection h with h _
   subst h
   exact ⟨rfl,Decidable.not_not.1 h1⟩
theorem look_short {x : S65} (h0 : (lookF x).2 = 0) : Short x:=by
 apply sizes_short
 unfold lookF at h0
 by_cases hz : sizesF x ≠ 0
 ·rw [if_pos hz] at h0
  exact absurd h0 hz
 ·exact Decidable.not_not.1 hz
theorem bigB_short {c : S65} (h : Short c) : c.f1.length ≤ 9223372036854775806 ∧ c.f2.length ≤ 9223372036854775806 ∧ c.f3.length ≤ 9223372036854775806 ∧ c.f4.length ≤ 9223372036854775806 ∧ c.f5.length ≤ 9223372036854775806 ∧ c.f6.length ≤ 9223372036854775806 ∧ c.f7.length ≤ 9223372036854775806 ∧ c.f8.length ≤ 9223372036854775806 ∧ c.f9.length ≤ 9223372036854775806 ∧ c.f10.length ≤ 9223372036854775806:=by
 have:=h.l1;have:=h.l2;have:=h.l3;have:=h.l4;have:=h.l5;have:=h.l6;have:=h.l7;have:=h.l8;have:=h.l9;have:=h.l10
 omega
theorem formB_just {s : ByteArray} {m0 m1 m2 m3 m5 m6 m7 m8 p q : Nat} {c : S65} (h : formB s m0 m1 m2 m3 m5 m6 m7 m8 p = .ok (c,q)) : ∀ r ∈ c.f6,r.length ≤ 16384:=by
 unfold formB at h
 split at h
 ·cases h
 ·split at h
  ·cases h
  ·split at h
   ·cases h
   ·split at h
    ·cases h
    ·split at h
     ·cases h
     ·rename_i hj
      split at h
      ·cases h
      ·injection h with h
       injection h with h _
       subst h
       exact justAllB_len hj
theorem readB_ok {s : ByteArray} {x : S65} {a : Int} (h : readB s = (x,a,0)) : Short x ∧ ∀ r ∈ x.f6,r.length ≤ 16384:=by
 unfold readB at h
 split at h
 ·rename_i h1
  injection h with _ h
  injection h with _ h
  exact absurd h h1
 ·split at h
  ·injection h with _ h
   injection h with _ h
   exact absurd h (by decide)
  ·split at h
   ·injection h with _ h
    injection h with _ h
    exact absurd h (by decide)
   ·unfold readGatesB at h
    split at h
    ·injection h with _ h
     injection h with _ h
     exact absurd h (by decide)
    ·rename_i c q hf
     split at h
     ·injection h with _ h
      injection h with _ h
      exact absurd h (by decide)
     ·obtain ⟨hx,h0⟩:=readEnd_ok h
      refine ⟨look_short h0,?_⟩
      subst hx
      have h6:=formB_just hf
      exact h6
end Go.Proofs.YtdmngdohlobogaaGreatDoor.Asc
end
section
namespace Go.Proofs.YtdmngdohlobogaaGreatDoor.Asc
open Go Go.RowKit Go.Proofs.YtdmngdohlobogaaGreatDoorW.PrintWords Go.Proofs.YtdmngdohlobogaaGreatDoorW.PrintLast Go.Proofs.YtdmngdohlobogaaGreatDoorW.PrintMore
set_option linter.unusedVariables false
set_option linter.unusedSimpArgs false
def tol (N m : Nat) : List Int:=(List.range (N + 1)).map (fun v : Nat => if v ≤ m then 2 * (v : Int) else 0)
theorem tol_len (N m : Nat) : (tol N m).length = N + 1:=by simp [tol]
theorem tol_get (N m v : Nat) (h : v < N + 1) : (tol N m)[v]? = some (if v ≤ m then 2 * (v : Int) else 0):=by
 simp [tol,h]
theorem tol_set (N m : Nat) (h : m < N) : (tol N m).set (m + 1) (2 * ((m + 1 : Nat) : Int)) = tol N (m + 1):=by
 apply List.ext_getElem?
 intro v
 rw [List.getElem?_set]
 by_cases hv : v < N + 1
 ·rw [tol_get N m v hv,tol_get N (m + 1) v hv]
  by_cases he : m + 1 = v
  ·subst he
   rw [if_pos rfl,if_pos (by rw [tol_len];omega),if_pos (Nat.le_refl _)]
  ·rw [if_neg he]
   congr 1
   by_cases h1 : v ≤ m
   ·rw [if_pos h1,if_pos (by omega)]
   ·rw [if_neg h1,if_neg (by omega)]
 ·have e1 : (tol N m)[v]? = none:=List.getElem?_eq_none (by rw [tol_len];omega)
  have e2 : (tol N (m + 1))[v]? = none:=List.getElem?_eq_none (by rw [tol_len];omega)
  rw [e1,e2,if_neg (by omega)]
structure TO (W : World) (g7 g8 gT N m : Nat) : Prop where
 c7 : W.heap[g7]? = some (.cells #[.slice (some ⟨gT,0,none⟩) (N + 1) (N + 1)] 22 (0,0))
 c8 : W.heap[g8]? = some (.cells #[.int .i64 (2 * (m : Int))] 3 (0,0))
 cT : W.heap[gT]? = some (.cells (encI (tol N m)).toArray 3 (0,0))
 n78 : g7 ≠ g8
 n7T : g7 ≠ gT
 n8T : g8 ≠ gT
theorem TO.below {W W1 : World} {g7 g8 gT N m : Nat} (h : TO W g7 g8 gT N m) (hb : Below W.heap.size W W1) : TO W1 g7 g8 gT N m :=
 ⟨(hb.block _ (Array.getElem?_eq_some_iff.1 h.c7).1).trans h.c7,(hb.block _ (Array.getElem?_eq_some_iff.1 h.c8).1).trans h.c8,(hb.block _ (Array.getElem?_eq_some_iff.1 h.cT).1).trans h.cT,h.n78,h.n7T,h.n8T⟩
def giveW (W : World) (g8 gT m : Nat) : World:=(W.setCell ⟨g8,0,none⟩ (.int .i64 (2 * (m : Int) + 2))).setCell ⟨gT,m + 1,none⟩ (.int .i64 (2 * (m : Int) + 2))
theorem encI_at (l : List Int) (i : Nat) (h : i < l.length) : (encI l).toArray[i]? = some (.int .i64 (l[i])):=by
 simp [encI,h]
theorem TO.give {W : World} {g7 g8 gT N m : Nat} (h : TO W g7 g8 gT N m) (hm : m < N) : TO (giveW W g8 gT m) g7 g8 gT N (m + 1):=by
 have e : 2 * (m : Int) + 2 = 2 * ((m + 1 : Nat) : Int):=by omega
 unfold giveW
 rw [e]
 refine ⟨blk_far (blk_far h.c7 h.n78 _) h.n7T _,blk_far (blk_put h.c8 0 _ rfl) h.n8T _,blk_put (blk_far h.cT (Ne.symm h.n8T) _) (m + 1) _ ?_,h.n78,h.n7T,h.n8T⟩
 rw [← tol_set N m hm]
 simp [encI,List.map_set]
theorem giveW_below {B : Nat} {w0 W : World} {g8 gT m : Nat} (h : Below B w0 W) (h8 : B ≤ g8) (hT : B ≤ gT) : Below B w0 (giveW W g8 gT m):=(h.setCell h8 _).setCell hT _
set_option maxHeartbeats 4000000 in
set_option maxRecDepth 100000 in
theorem giveN_calls {W : World} {g7 g8 gT N m : Nat} (h : TO W g7 g8 gT N m) (hm : m < N) (hN : N ≤ 16384) :
  Calls Tryz.prog 39 #[.int .i64 (2 * ((m : Int) + 1)),.pointer (some ⟨g8,0,none⟩),.pointer (some ⟨g7,0,none⟩)] W fun e w' => e = .returned (.tuple #[]) ∧ w' = giveW W g8 gT m:=by
 have z8:=bF_ h.c8 0
 have y8 : W.cell? ⟨g8,0,none⟩ = some (.int .i64 (2 * (m : Int))):=(bC_ h.c8 0).trans rfl
 have H:=A0_.mk h
 clear h
 go_enter Tryz.func39,Tryz.ntmps39
 go_upto_region 1 with (fail)
 have d7:=blk_far (p:=⟨g8,0,none⟩) H.out.c7 H.out.n78 (.int .i64 (2 * (m : Int) + 2))
 have d8:=blk_put H.out.c8 0 (.int .i64 (2 * (m : Int) + 2)) rfl
 have dT:=blk_far (p:=⟨g8,0,none⟩) H.out.cT (Ne.symm H.out.n8T) (.int .i64 (2 * (m : Int) + 2))
 have HW : A0_ (giveW W g8 gT m = (W.setCell ⟨g8,0,none⟩ (.int .i64 (2 * (m : Int) + 2))).setCell ⟨gT,m + 1,none⟩ (.int .i64 (2 * (m : Int) + 2))):=⟨rfl⟩
 generalize W.setCell ⟨g8,0,none⟩ (.int .i64 (2 * (m : Int) + 2)) = W1 at d7 d8 dT HW ⊢
 have x7 : W1.cell? ⟨g7,0,none⟩ = some (.slice (some ⟨gT,0,none⟩) (N + 1) (N + 1)):=(bC_ d7 0).trans rfl
 have x8 : W1.cell? ⟨g8,0,none⟩ = some (.int .i64 (2 * (m : Int) + 2)):=(bC_ d8 0).trans rfl
 have xT : W1.cell? ⟨gT,m + 1,none⟩ = some (.int .i64 ((tol N m)[m + 1]'(by rw [tol_len];omega))):=(bC_ dT (m + 1)).trans (encI_at _ _ _)
 have zT:=bF_ dT (m + 1)
 clear d7 d8 dT y8 z8
 have hdiv : 2 * ((m : Int) + 1) / 2 = ((m + 1 : Nat) : Int):=by omega
 have p0 : (0 ≤ ((m + 1 : Nat) : Int)) = True:=eq_true (by omega)
 have p1 : (((m + 1 : Nat) : Int) < ((N + 1 : Nat) : Int)) = True:=eq_true (by omega)
 go_wp2
 repeat (go_quiet (fail);try go_wp2)
 refine bodyPost_end (results_none rfl _ _ _) rfl ?_
 exact ⟨rfl,HW.out.symm⟩
theorem tol_val {N v : Nat} (h : v < N + 1) (hl : v < (tol N N).length) : (tol N N)[v] = 2 * (v : Int):=by
 have:=tol_get N N v h
 rw [List.getElem?_eq_getElem hl] at this
 injection this with this
 rw [this,if_pos (by omega)]
set_option maxHeartbeats 4000000 in
set_option maxRecDepth 100000 in
theorem lit_calls {W : World} {g7 g8 gT N : Nat} (h : TO W g7 g8 gT N N) (hN : N ≤ 16384) (l : Int) (h0 : 0 ≤ l) (h1 : l ≤ 2 * (N : Int) + 1) :
  Calls Tryz.prog 40 #[.int .i64 l,.pointer (some ⟨g7,0,none⟩)] W fun e w' => e = .returned (.int .i64 l) ∧ w' = W:=by
 have x7 : W.cell? ⟨g7,0,none⟩ = some (.slice (some ⟨gT,0,none⟩) (N + 1) (N + 1)):=(bC_ h.c7 0).trans rfl
 obtain ⟨v,hv⟩ : ∃ v : Nat,l / 2 = (v : Int):=⟨(l / 2).toNat,by omega⟩
 have hvN : v < N + 1:=by omega
 have xT : W.cell? ⟨gT,v,none⟩ = some (.int .i64 (2 * (v : Int))):=(bC_ h.cT v).trans ((encI_at _ _ (by rw [tol_len];omega)).trans (by rw [tol_val hvN]))
 have p0 : (0 ≤ (v : Int)) = True:=eq_true (by omega)
 have p1 : ((v : Int) < ((N + 1 : Nat) : Int)) = True:=eq_true (by omega)
 clear h
 go_enter Tryz.func40,Tryz.ntmps40
 go_wp2
 repeat (go_quiet (fail);try go_wp2)
 go_ret
 refine ⟨?_,rfl⟩
 have e1:=and_one l h0 (by omega)
 have e2 : bits .or .i64 (2 * (v : Int)) (l % 2) = 2 * (v : Int) + l % 2:=bits_join .i64 62 (by decide) (fun n a b => by rw [IntKind.wrap_i64];omega) 1 _ _ (by omega) (by omega) (by omega) (by omega) (by omega) (by omega)
 have e3 : 2 * (v : Int) + l % 2 = l:=by omega
 show Ending.returned (.int .i64 (bits .or .i64 (2 * (v : Int)) (bits .and .i64 l 1))) = _
 rw [e1,e2,e3]
end Go.Proofs.YtdmngdohlobogaaGreatDoor.Asc
end
section
namespace Go.Proofs.YtdmngdohlobogaaGreatDoor.Asc
open Go Go.RowKit Go.Proofs.YtdmngdohlobogaaGreatDoorW.PrintWords Go.Proofs.YtdmngdohlobogaaGreatDoorW.PrintLast Go.Proofs.YtdmngdohlobogaaGreatDoorW.PrintMore
set_option linter.unusedVariables false
set_option linter.unusedSimpArgs false
def partl (l : List Int) (n : Nat) : List Int:=l.take n ++ List.replicate (l.length - n) 0
theorem partl_len (l : List Int) (n : Nat) (h : n ≤ l.length) : (partl l n).length = l.length:=by simp [partl];omega
theorem partl_all (l : List Int) : partl l l.length = l:=by simp [partl]
theorem partl_set (l : List Int) (n : Nat) (h : n < l.length) : (partl l n).set n l[n] = partl l (n + 1):=by
 apply List.ext_getElem?
 intro j
 rw [List.getElem?_set]
 have e1 : ∀ m,m ≤ l.length → ∀ k,(partl l m)[k]? = if k < m then l[k]? else if k < l.length then some 0 else none:=by
  intro m hm k
  unfold partl
  rw [List.getElem?_append,List.length_take,List.getElem?_replicate]
  have : min m l.length = m:=by omega
  rw [this]
  by_cases hk : k < m
  ·rw [if_pos hk,if_pos hk,List.getElem?_take,if_pos hk]
  ·rw [if_neg hk,if_neg hk]
   by_cases hl : k < l.length
   ·rw [if_pos hl,if_pos (by omega)]
   ·rw [if_neg hl,if_neg (by omega)]
 rw [e1 n (by omega),e1 (n + 1) (by omega),partl_len l n (by omega)]
 by_cases hj : n = j
 ·subst hj
  rw [if_pos rfl,if_pos h,if_pos (by omega),List.getElem?_eq_getElem h]
 ·rw [if_neg hj]
  by_cases h1 : j < n
  ·rw [if_pos h1,if_pos (by omega)]
  ·have h2 : ¬ j < n + 1:=by omega
   rw [if_neg h1,if_neg h2]
set_option maxHeartbeats 4000000 in
set_option maxRecDepth 100000 in
theorem lits_calls {W : World} {g7 g8 gT g16 N cp : Nat} {A : Option Addr} {l : List Int} (h : TO W g7 g8 gT N N) (h16 : W.heap[g16]? = some (.cells #[.func (.func 40) #[] #[.pointer (some ⟨g7,0,none⟩)]] 82 (0,0))) (hN : N ≤ 16384) (hC : Kd.C (Kd.int .i64) W A l.length l) (hl : ∀ x ∈ l,0 ≤ x ∧ x ≤ 2 * (N : Int) + 1) (hlen : l.length ≤ 1048576) :
  Calls Tryz.prog 41 #[.slice A l.length cp,.pointer (some ⟨g16,0,none⟩)] W fun e w' => e = .returned (.slice (some ⟨W.heap.size,0,none⟩) l.length l.length) ∧ w'.heap[W.heap.size]? = some (.cells (encI l).toArray 3 (0,0)) ∧ Below W.heap.size W w':=by
 have m1:=make47 W l.length hlen
 have H:=A0_.mk h
 have H16:=A0_.mk h16
 have HC:=A0_.mk hC
 have HL:=A0_.mk hl
 have HLEN:=A0_.mk hlen
 clear h h16 hC hl hlen
 go_enter Tryz.func41,Tryz.ntmps41
 go_upto_region 2 with (fail)
 have hB : Below W.heap.size W (W.alloc (.cells (encI (List.replicate l.length 0)).toArray 3)):=eA_ (Below.refl _ _) _
 have hblk : (W.alloc (.cells (encI (List.replicate l.length 0)).toArray 3)).heap[W.heap.size]? = some (.cells (encI (List.replicate l.length 0)).toArray 3 (0,0)):=blk_new W _
 clear m1
 obtain ⟨g,hg⟩ : ∃ g,W.heap.size = g:=⟨_,rfl⟩
 have HG : A0_ (W.heap.size = g):=⟨hg⟩
 rw [hg] at hblk
 rw [hg]
 clear hg
 have HBLK : A0_ (_ = _):=⟨hblk⟩
 have HB:=A0_.mk hB
 clear hblk hB
 generalize W.alloc (.cells (encI (List.replicate l.length 0)).toArray 3) = W1 at HB HBLK ⊢
 go_wp2
 (try simp only [Act.put,sA_,sB_,sC_])
 go_loopg [12] (l.length + 1) (fun kq v12 w' => ∃ (n : Nat),v12 = .int .i64 n ∧ A0_ (n + kq = l.length + 1) ∧ A0_ (n ≤ l.length) ∧ A0_ (Below W.heap.size W w') ∧ A0_ (w'.heap[g]? = some (.cells (encI (partl l n)).toArray 3 (0,0))))
 case atStart => exact ⟨0,rfl,⟨by omega⟩,⟨Nat.zero_le _⟩,HB,⟨by rw [HBLK.out];simp [partl]⟩⟩
 case round =>
  clear HB HBLK
  obtain ⟨n,rfl,HKN,HNL,HB,HBLK⟩:=hrel
  by_cases cn : n < l.length
  ·obtain ⟨k1,rfl⟩ : ∃ k1,gk = k1 + 1:=by
    cases gk with
    |zero => have:=HKN.out;omega
    |succ k1 => exact ⟨k1,rfl⟩
   have cnb : decide ((n : Int) < (l.length : Int)) = true:=decide_eq_true (by omega)
   have p0 : (0 ≤ (n : Int)) = True:=eq_true (by omega)
   have p1 : ((n : Int) < (l.length : Int)) = True:=eq_true (by omega)
   have hw1 : IntKind.i64.wrap ((n : Int) + 1) = ((n + 1 : Nat) : Int):=by have:=HLEN.out;rw [IntKind.wrap_i64];omega
   obtain ⟨ad,ea,hc⟩:=C_int_get (Kd.C_below HC.out HB.out) n cn
   subst ea
   have hx:=HL.out l[n] (List.getElem_mem _)
   have hps:=partl_set l n cn
   have y16 : wr.cell? ⟨g16,0,none⟩ = some (.func (.func 40) #[] #[.pointer (some ⟨g7,0,none⟩)]):=(bC_ (blk_below H16.out HB.out) 0).trans rfl
   generalize l[n] = x at hc hx hps
   have LC:=A0_.mk (lit_calls (H.out.below HB.out) hN x hx.1 hx.2)
   have xT : wr.cell? ⟨g,n,none⟩ = some (.int .i64 ((partl l n)[n]'(by rw [partl_len l n (by omega)];exact cn))):=(bC_ HBLK.out n).trans (encI_at _ _ _)
   have zT:=bF_ HBLK.out n
   have HPS:=A0_.mk hps
   clear hx hps
   go_wp2_with (first|((with_reducible refine gate_value (t:=19) rfl ?_);refine goesC_ (some 21) rfl rfl Tryz.func40 (by kernel_rfl) rfl #[.int .i64 x] #[.pointer (some ⟨g7,0,none⟩)] #[.int .i64 x,.pointer (some ⟨g7,0,none⟩)] rfl rfl (by (try simp only [List.map_toArray,List.map_cons,List.map_nil]);first|done|rfl) rfl ?_;(with_reducible refine (LC.out).mono ?_);rintro e w4 ⟨rfl,rfl⟩;refine ⟨_,rfl,?_⟩)|go_in)
   repeat (go_quiet (fail);try go_wp2)
   go_roundg k1
   case measure => omega
   case rel => exact ⟨n + 1,rfl,⟨by have:=HKN.out;omega⟩,⟨by omega⟩,⟨eS_ HB.out (Nat.le_of_eq HG.out)⟩,⟨blk_put HBLK.out n _ (by rw [← HPS.out];simp [encI,List.map_set])⟩⟩
  ·have cnb : decide ((n : Int) < (l.length : Int)) = false:=decide_eq_false (by omega)
   go_wp2
   repeat (go_quiet (fail);try go_wp2)
   go_ret
   have hn : n = l.length:=by have:=HNL.out;omega
   subst hn
   have hb:=HBLK.out
   rw [partl_all] at hb
   exact ⟨by rw [HG.out];rfl,by rw [HG.out];exact hb,HB.out⟩
end Go.Proofs.YtdmngdohlobogaaGreatDoor.Asc
end
