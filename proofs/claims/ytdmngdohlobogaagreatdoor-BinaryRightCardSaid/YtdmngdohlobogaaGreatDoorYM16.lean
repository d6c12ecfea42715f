import Derived.Test.YtdmngdohlobogaaGreatDoorYSHDefines
section
namespace Go.Proofs.YtdmngdohlobogaaGreatDoor.Asc
open Go Go.RowKit Go.Proofs.YtdmngdohlobogaaGreatDoorW.PrintWords Go.Proofs.YtdmngdohlobogaaGreatDoorW.PrintLast Go.Proofs.YtdmngdohlobogaaGreatDoorW.PrintMore
set_option linter.unusedVariables false
set_option linter.unusedSimpArgs false
def useF (mx : Int) (by_ : List S40) : List Int → Int
 |[] => 0
 |x :: xs => if x < 0 ∨ x > 2 * mx + 1 then 30 else if x > 1 ∧ (by_.getD (x / 2).toNat z40).f0 = 0 then 32 else useF mx by_ xs
set_option maxHeartbeats 4000000 in
set_option maxRecDepth 100000 in
theorem use_calls {g b : Nat} {c : S65} {a : CA} {by_ : List S40} {A : Option Addr} {cp : Nat} {l : List Int} {w : World} (hL : LK w g b c a by_) (hC : Kd.C (Kd.int .i64) w A l.length l) (hl : l.length ≤ 140737488355328) (hm0 : 0 ≤ c.f0) (hm1 : c.f0 ≤ 16384) (hn : (by_.length : Int) = c.f0 + 1) :
  Calls Tryz.prog 112 #[.pointer (some ⟨g,0,none⟩),.slice A l.length cp] w fun e w' => e = .returned (.int .i64 (useF c.f0 by_ l)) ∧ w' = w:=by
 have hu150:=Tryz.underlying127
 have hu65:=Tryz.underlying29
 have hu169:=Tryz.underlying154
 have f0 : w.cell? ⟨g,0,none⟩ = some (.int .i64 c.f0):=(hL.cell 0).trans rfl
 have f11 : w.cell? ⟨g,11,none⟩ = some (.slice (some ⟨b,0,none⟩) by_.length by_.length):=(hL.cell 11).trans rfl
 have hw2 : IntKind.i64.wrap (2 * c.f0) = 2 * c.f0:=by rw [IntKind.wrap_i64];omega
 have hw3 : IntKind.i64.wrap (2 * c.f0 + 1) = 2 * c.f0 + 1:=by rw [IntKind.wrap_i64];omega
 obtain ⟨R,hR⟩ : ∃ R,useF c.f0 by_ l = R:=⟨_,rfl⟩
 rw [hR]
 have HL:=A0_.mk hL
 have HC:=A0_.mk hC
 have HLL:=A0_.mk hl
 have HR:=A0_.mk hR
 have HN:=A0_.mk hn
 have HM0:=A0_.mk hm0
 have HM1:=A0_.mk hm1
 clear hL hC hl hR hn hm0 hm1
 go_enter Tryz.func112,Tryz.ntmps112
 go_wp2
 repeat (go_quiet (fail);try go_wp2)
 (try simp only [Act.put,sA_,sB_,sC_])
 go_loopg [9] (l.length + 1) (fun kq v w' => ∃ (n : Nat),v = .int .i64 n ∧ A0_ (n + kq = l.length + 1) ∧ A0_ (n ≤ l.length) ∧ A0_ (useF c.f0 by_ (l.drop n) = R) ∧ w' = w)
 case atStart => exact ⟨0,rfl,⟨by omega⟩,⟨Nat.zero_le _⟩,⟨by rw [List.drop_zero];exact HR.out⟩,rfl⟩
 case round =>
  clear HR
  obtain ⟨n,rfl,HK,HNL,HR,rfl⟩:=hrel
  cases gk with
  |zero =>
   have h1:=HK.out
   have h2:=HNL.out
   omega
  |succ k1 =>
   by_cases cn : n < l.length
   ·have cnb : decide ((n : Int) < (l.length : Int)) = true:=decide_eq_true (by omega)
    have p0 : (0 ≤ (n : Int)) = True:=eq_true (by omega)
    have p1 : ((n : Int) < (l.length : Int)) = True:=eq_true (by omega)
    have hw1 : IntKind.i64.wrap ((n : Int) + 1) = ((n + 1 : Nat) : Int):=by have:=HLL.out;rw [IntKind.wrap_i64];omega
    obtain ⟨ad,ea,hx⟩:=C_int_get HC.out n cn
    cases ea
    have hdrop : l.drop n = l[n] :: l.drop (n + 1):=List.drop_eq_getElem_cons cn
    have hr:=HR.out
    rw [hdrop,useF] at hr
    clear HR hdrop
    generalize l[n] = x at hr hx ⊢
    by_cases u1 : x < 0
    ·rw [if_pos (.inl u1)] at hr
     subst hr
     have u1b : decide (x < 0) = true:=decide_eq_true u1
     clear u1
     go_wp2
     repeat (go_quiet (fail);try go_wp2)
     go_ret
     exact ⟨rfl,rfl⟩
    ·have u1b : decide (x < 0) = false:=decide_eq_false u1
     by_cases u2 : x > 2 * c.f0 + 1
     ·rw [if_pos (.inr u2)] at hr
      subst hr
      have u2b : decide (2 * c.f0 + 1 < x) = true:=decide_eq_true u2
      clear u1 u2
      go_wp2
      repeat (go_quiet (fail);try go_wp2)
      go_ret
      exact ⟨rfl,rfl⟩
     ·rw [if_neg (fun h => h.elim u1 u2)] at hr
      have u2b : decide (2 * c.f0 + 1 < x) = false:=decide_eq_false u2
      by_cases u3 : x > 1
      ·have u3b : decide (1 < x) = true:=decide_eq_true u3
       obtain ⟨i,hi⟩ : ∃ i : Nat,x / 2 = (i : Int):=⟨(x / 2).toNat,by omega⟩
       rw [hi,Int.toNat_natCast] at hr
       have hil : i < by_.length:=by have:=HN.out;omega
       obtain ⟨g0,g1⟩:=HL.out.row.cells i hil
       rw [List.getD_eq_getElem?_getD,List.getElem?_eq_getElem hil,Option.getD_some] at hr
       have hi0 : (0 ≤ (i : Int)) = True:=eq_true (by omega)
       have hi1 : ((i : Int) < (by_.length : Int)) = True:=eq_true (by omega)
       by_cases u4 : by_[i].f0 = 0
       ·rw [if_pos ⟨u3,u4⟩] at hr
        subst hr
        have u4b : (by_[i].f0 == 0) = true:=beq_iff_eq.mpr u4
        clear u1 u2 u3
        go_wp2
        repeat (go_quiet (fail);try go_wp2)
        go_ret
        exact ⟨rfl,rfl⟩
       ·rw [if_neg (fun h => u4 h.2)] at hr
        have u4b : (by_[i].f0 == 0) = false:=beq_eq_false_iff_ne.mpr u4
        clear u1 u2 u3
        have HR:=A0_.mk hr
        clear hr
        go_wp2
        repeat (go_quiet (fail);try go_wp2)
        go_roundg k1
        case measure => omega
        case rel => exact ⟨n + 1,rfl,⟨by have:=HK.out;omega⟩,⟨by omega⟩,HR,rfl⟩
      ·rw [if_neg (fun h => u3 h.1)] at hr
       have u3b : decide (1 < x) = false:=decide_eq_false u3
       clear u1 u2 u3
       have HR:=A0_.mk hr
       clear hr
       go_wp2
       repeat (go_quiet (fail);try go_wp2)
       go_roundg k1
       case measure => omega
       case rel => exact ⟨n + 1,rfl,⟨by have:=HK.out;omega⟩,⟨by omega⟩,HR,rfl⟩
   ·have cnb : decide ((n : Int) < (l.length : Int)) = false:=decide_eq_false (by omega)
    have hn9 : n = l.length:=by have:=HNL.out;omega
    have hr:=HR.out
    rw [hn9,List.drop_length,useF] at hr
    subst hr
    go_wp2
    repeat (go_quiet (fail);try go_wp2)
    go_ret
    exact ⟨rfl,rfl⟩
end Go.Proofs.YtdmngdohlobogaaGreatDoor.Asc
end
section
namespace Go.Proofs.YtdmngdohlobogaaGreatDoor.Asc
open Go Go.RowKit Go.Proofs.YtdmngdohlobogaaGreatDoorW.PrintWords Go.Proofs.YtdmngdohlobogaaGreatDoorW.PrintLast Go.Proofs.YtdmngdohlobogaaGreatDoorW.PrintMore
set_option linter.unusedVariables false
set_option linter.unusedSimpArgs false
def makerOf (by_ : List S40) (l : Int) : S40:=by_.getD (l / 2).toNat z40
def belowOf (by_ : List S40) (l : Int) : List Int:=if (makerOf by_ l).f0 = 3 then [(makerOf by_ l).f1] else []
def belowF (by_ : List S40) (x : S125) : List Int:=belowOf by_ x.f1 ++ belowOf by_ x.f2
theorem belowOf_len (by_ : List S40) (l : Int) : (belowOf by_ l).length ≤ 1:=by
 unfold belowOf
 split <;> simp
set_option maxHeartbeats 4000000 in
set_option maxRecDepth 100000 in
theorem below_calls {g b : Nat} {c : S65} {a : CA} {by_ : List S40} {w : World} (hL : LK w g b c a by_) (hC : CR w c a) (i : Nat) (hi : i < c.f8.length) (hx1 : 0 ≤ c.f8[i].f1 ∧ c.f8[i].f1 ≤ 2 * c.f0 + 1) (hx2 : 0 ≤ c.f8[i].f2 ∧ c.f8[i].f2 ≤ 2 * c.f0 + 1) (hm1 : c.f0 ≤ 16384) (hn : (by_.length : Int) = c.f0 + 1) :
  Calls Tryz.prog 100 #[.pointer (some ⟨g,0,none⟩),.int .i64 (i : Int)] w fun e w' => ∃ v,e = .returned v ∧ Kd.R (Kd.int .i64) 3 w' w.heap.size (fun _ => True) v (belowF by_ c.f8[i]) ∧ Below w.heap.size w w':=by
 obtain ⟨A1,A2,A3,A4,A5,A6,A7,A8,A9,A10,c1,c2,c3,c4,c5,c6,c7,c8,c9,c10⟩:=a
 have hu150:=Tryz.underlying127
 have hu65:=Tryz.underlying29
 have hu169:=Tryz.underlying154
 have hu125:=Tryz.underlying75
 have hu191:=Tryz.underlying165
 have f8 : w.cell? ⟨g,8,none⟩ = some (.slice A8 c.f8.length c8):=(hL.cell 8).trans rfl
 have p0 : (0 ≤ (i : Int)) = True:=eq_true (by omega)
 have p1 : ((i : Int) < (c.f8.length : Int)) = True:=eq_true (by omega)
 obtain ⟨ad,ea,hy0,hy1,hy2⟩:=C_and_get hC.r8 i hi
 have ea : A8 = some ad:=ea
 subst ea
 have HL:=A0_.mk hL
 clear hC hL
 generalize c.f8[i] = x at hx1 hx2 hy0 hy1 hy2 ⊢
 obtain ⟨x0,x1,x2⟩:=x
 dsimp only at hx1 hx2 hy0 hy1 hy2
 have key : ∀ l : Int,0 ≤ l ∧ l ≤ 2 * c.f0 + 1 → ∃ j : Nat,l / 2 = (j : Int) ∧ j < by_.length:=fun l h => ⟨(l / 2).toNat,by omega,by omega⟩
 have k1:=A0_.mk (key x1 hx1)
 have k2:=A0_.mk (key x2 hx2)
 clear key hx1 hx2 hm1 hn
 have i0 : ∀ w : World,(Instr.index 165 (.agg #[.int .i64 x1,.int .i64 x2]) (.int .i64 0)).run Tryz.prog w = .ok (.int .i64 x1) w:=fun _ => by kernel_rfl
 have i1 : ∀ w : World,(Instr.index 165 (.agg #[.int .i64 x1,.int .i64 x2]) (.int .i64 1)).run Tryz.prog w = .ok (.int .i64 x2) w:=fun _ => by kernel_rfl
 go_enter Tryz.func100,Tryz.ntmps100
 go_wp2
 repeat (go_quiet (fail);try go_wp2)
 (try simp only [Act.put,sA_,sB_,sC_])
 go_loopg [5,28] 3 (fun kq v5 v28 w' => ∃ (n : Nat),v28 = .int .i64 n ∧ A0_ (n + kq = 3) ∧ A0_ (n ≤ 2) ∧ A0_ (Kd.R (Kd.int .i64) 3 w' w.heap.size (fun _ => True) v5 ([belowOf by_ x1,belowOf by_ x2].take n).flatten) ∧ A0_ (Below w.heap.size w w'))
 case atStart => exact ⟨0,rfl,⟨by omega⟩,⟨by omega⟩,⟨Kd.R_nil _ _ _ _ _⟩,⟨eN_ (Below.refl _ _) _⟩⟩
 case round =>
  clear f8 hy0 hy1 hy2
  obtain ⟨n,rfl,HK,HNL,HR,HB⟩:=hrel
  obtain ⟨A5_,n5_,rfl⟩:=Kd.R_slice HR.out
  cases gk with
  |zero =>
   have h1:=HK.out
   have h2:=HNL.out
   omega
  |succ kk =>
   have hcase : n = 0 ∨ n = 1 ∨ n = 2:=by have:=HNL.out;omega
   rcases hcase with rfl|rfl|rfl
   ·obtain ⟨j,hj,hjl⟩:=k1.out
    have hLr:=HL.out.below HB.out
    obtain ⟨g0,g1⟩:=hLr.row.cells j hjl
    have f11 : wr.cell? ⟨g,11,none⟩ = some (.slice (some ⟨b,0,none⟩) by_.length by_.length):=(hLr.cell 11).trans rfl
    have hj0 : (0 ≤ (j : Int)) = True:=eq_true (by omega)
    have hj1 : ((j : Int) < (by_.length : Int)) = True:=eq_true (by omega)
    have hgl : g < wr.heap.size:=(Array.getElem?_eq_some_iff.1 hLr.blk).1
    have hbl : b < wr.heap.size:=hLr.row.lt
    have hmk : makerOf by_ x1 = by_[j]:=by
     unfold makerOf
     rw [hj]
     simp [hjl]
    clear hLr
    generalize by_[j] = m at g0 g1 hmk
    obtain ⟨m0,m1⟩:=m
    dsimp only at g0 g1
    have HMK:=A0_.mk hmk
    clear hmk
    have HR2 : A0_ (Kd.R (Kd.int .i64) 3 (wr.alloc (.cells #[.int .i64 m0,.int .i64 m1] 154)) w.heap.size (fun _ => True) (.slice A5_ ([belowOf by_ x1,belowOf by_ x2].take 0).flatten.length n5_) ([belowOf by_ x1,belowOf by_ x2].take 0).flatten):=⟨Kd.R_alloc HR.out _⟩
    have HB2 : A0_ (Below w.heap.size w (wr.alloc (.cells #[.int .i64 m0,.int .i64 m1] 154))):=⟨eA_ HB.out _⟩
    by_cases ck : m0 = 3
    ·subst ck
     have hap : ([belowOf by_ x1,belowOf by_ x2].take (0 + 1)).flatten = ([belowOf by_ x1,belowOf by_ x2].take 0).flatten ++ [m1]:=by
      have e : belowOf by_ x1 = [m1]:=by unfold belowOf;rw [HMK.out,if_pos rfl]
      simp [e]
     have HAP:=A0_.mk hap
     have hlen : ([belowOf by_ x1,belowOf by_ x2].take 0).flatten.length ≤ 2:=by
      have h1:=belowOf_len by_ x1
      have h2:=belowOf_len by_ x2
      simp
      try omega
     have HLEN:=A0_.mk hlen
     clear hap hlen
     go_upto_region 6 with (fail)
     have y0 : (wr.alloc (.cells #[.int .i64 3,.int .i64 m1] 154)).cell? ⟨wr.heap.size,0,none⟩ = some (.int .i64 3):=(bC_ (blk_new wr _) 0).trans rfl
     have y1 : (wr.alloc (.cells #[.int .i64 3,.int .i64 m1] 154)).cell? ⟨wr.heap.size,1,none⟩ = some (.int .i64 m1):=(bC_ (blk_new wr _) 1).trans rfl
     clear g0 g1 f11 hgl hbl
     generalize wr.heap.size = g8 at y0 y1 ⊢
     generalize wr.alloc (.cells #[.int .i64 3,.int .i64 m1] 154) = w5 at y0 y1 HR2 HB2 ⊢
     go_wp2_with (first|(at_builtin;refine Kd.R_append (Kd.int .i64) (w0:=w) w.heap.size rfl (.tmp 42) (.tmp 45) 22 3 (.int .i64 0) 8 rfl Tryz.underlying22 info3 rfl (by decide) (by decide) _ ([belowOf by_ x1,belowOf by_ x2].take 0).flatten m1 [.int .i64 m1] (fun _ => True) (fun _ => False) rfl rfl rfl (fun _ h => h.elim) (fun _ _ => trivial) HR2.out HB2.out HB2.out.size (by have:=HLEN.out;omega) ?_;intro v3 w3 hr3 hb3 hg3 hat3)|go_in)
     repeat (go_quiet (fail);try go_wp2)
     rw [← HAP.out] at hr3
     have HR3:=A0_.mk hr3
     have HB3:=A0_.mk hb3
     clear hr3 hb3 hg3 hat3
     go_roundg kk
     case measure => omega
     case rel => exact ⟨0 + 1,rfl,⟨by have:=HK.out;omega⟩,⟨by omega⟩,HR3,HB3⟩
    ·have ckb : (m0 == 3) = false:=beq_eq_false_iff_ne.mpr ck
     have hap : ([belowOf by_ x1,belowOf by_ x2].take (0 + 1)).flatten = ([belowOf by_ x1,belowOf by_ x2].take 0).flatten:=by
      have e : belowOf by_ x1 = []:=by unfold belowOf;rw [HMK.out,if_neg ck]
      simp [e]
     have HR3:=A0_.mk (show Kd.R (Kd.int .i64) 3 (wr.alloc (.cells #[.int .i64 m0,.int .i64 m1] 154)) w.heap.size (fun _ => True) (.slice A5_ ([belowOf by_ x1,belowOf by_ x2].take 0).flatten.length n5_) ([belowOf by_ x1,belowOf by_ x2].take (0 + 1)).flatten by rw [hap];exact HR2.out)
     clear hap
     go_wp2
     repeat (go_quiet (fail);try go_wp2)
     go_roundg kk
     case measure => omega
     case rel => exact ⟨0 + 1,rfl,⟨by have:=HK.out;omega⟩,⟨by omega⟩,HR3,HB2⟩
   ·obtain ⟨j,hj,hjl⟩:=k2.out
    have hLr:=HL.out.below HB.out
    obtain ⟨g0,g1⟩:=hLr.row.cells j hjl
    have f11 : wr.cell? ⟨g,11,none⟩ = some (.slice (some ⟨b,0,none⟩) by_.length by_.length):=(hLr.cell 11).trans rfl
    have hj0 : (0 ≤ (j : Int)) = True:=eq_true (by omega)
    have hj1 : ((j : Int) < (by_.length : Int)) = True:=eq_true (by omega)
    have hgl : g < wr.heap.size:=(Array.getElem?_eq_some_iff.1 hLr.blk).1
    have hbl : b < wr.heap.size:=hLr.row.lt
    have hmk : makerOf by_ x2 = by_[j]:=by
     unfold makerOf
     rw [hj]
     simp [hjl]
    clear hLr
    generalize by_[j] = m at g0 g1 hmk
    obtain ⟨m0,m1⟩:=m
    dsimp only at g0 g1
    have HMK:=A0_.mk hmk
    clear hmk
    have HR2 : A0_ (Kd.R (Kd.int .i64) 3 (wr.alloc (.cells #[.int .i64 m0,.int .i64 m1] 154)) w.heap.size (fun _ => True) (.slice A5_ ([belowOf by_ x1,belowOf by_ x2].take 1).flatten.length n5_) ([belowOf by_ x1,belowOf by_ x2].take 1).flatten):=⟨Kd.R_alloc HR.out _⟩
    have HB2 : A0_ (Below w.heap.size w (wr.alloc (.cells #[.int .i64 m0,.int .i64 m1] 154))):=⟨eA_ HB.out _⟩
    by_cases ck : m0 = 3
    ·subst ck
     have hap : ([belowOf by_ x1,belowOf by_ x2].take (1 + 1)).flatten = ([belowOf by_ x1,belowOf by_ x2].take 1).flatten ++ [m1]:=by
      have e : belowOf by_ x2 = [m1]:=by unfold belowOf;rw [HMK.out,if_pos rfl]
      simp [e]
     have HAP:=A0_.mk hap
     have hlen : ([belowOf by_ x1,belowOf by_ x2].take 1).flatten.length ≤ 2:=by
      have h1:=belowOf_len by_ x1
      have h2:=belowOf_len by_ x2
      simp
      try omega
     have HLEN:=A0_.mk hlen
     clear hap hlen
     go_upto_region 6 with (fail)
     have y0 : (wr.alloc (.cells #[.int .i64 3,.int .i64 m1] 154)).cell? ⟨wr.heap.size,0,none⟩ = some (.int .i64 3):=(bC_ (blk_new wr _) 0).trans rfl
     have y1 : (wr.alloc (.cells #[.int .i64 3,.int .i64 m1] 154)).cell? ⟨wr.heap.size,1,none⟩ = some (.int .i64 m1):=(bC_ (blk_new wr _) 1).trans rfl
     clear g0 g1 f11 hgl hbl
     generalize wr.heap.size = g8 at y0 y1 ⊢
     generalize wr.alloc (.cells #[.int .i64 3,.int .i64 m1] 154) = w5 at y0 y1 HR2 HB2 ⊢
     go_wp2_with (first|(at_builtin;refine Kd.R_append (Kd.int .i64) (w0:=w) w.heap.size rfl (.tmp 42) (.tmp 45) 22 3 (.int .i64 0) 8 rfl Tryz.underlying22 info3 rfl (by decide) (by decide) _ ([belowOf by_ x1,belowOf by_ x2].take 1).flatten m1 [.int .i64 m1] (fun _ => True) (fun _ => False) rfl rfl rfl (fun _ h => h.elim) (fun _ _ => trivial) HR2.out HB2.out HB2.out.size (by have:=HLEN.out;omega) ?_;intro v3 w3 hr3 hb3 hg3 hat3)|go_in)
     repeat (go_quiet (fail);try go_wp2)
     rw [← HAP.out] at hr3
     have HR3:=A0_.mk hr3
     have HB3:=A0_.mk hb3
     clear hr3 hb3 hg3 hat3
     go_roundg kk
     case measure => omega
     case rel => exact ⟨1 + 1,rfl,⟨by have:=HK.out;omega⟩,⟨by omega⟩,HR3,HB3⟩
    ·have ckb : (m0 == 3) = false:=beq_eq_false_iff_ne.mpr ck
     have hap : ([belowOf by_ x1,belowOf by_ x2].take (1 + 1)).flatten = ([belowOf by_ x1,belowOf by_ x2].take 1).flatten:=by
      have e : belowOf by_ x2 = []:=by unfold belowOf;rw [HMK.out,if_neg ck]
      simp [e]
     have HR3:=A0_.mk (show Kd.R (Kd.int .i64) 3 (wr.alloc (.cells #[.int .i64 m0,.int .i64 m1] 154)) w.heap.size (fun _ => True) (.slice A5_ ([belowOf by_ x1,belowOf by_ x2].take 1).flatten.length n5_) ([belowOf by_ x1,belowOf by_ x2].take (1 + 1)).flatten by rw [hap];exact HR2.out)
     clear hap
     go_wp2
     repeat (go_quiet (fail);try go_wp2)
     go_roundg kk
     case measure => omega
     case rel => exact ⟨1 + 1,rfl,⟨by have:=HK.out;omega⟩,⟨by omega⟩,HR3,HB2⟩
   ·have hr : Kd.R (Kd.int .i64) 3 wr w.heap.size (fun _ => True) (.slice A5_ ([belowOf by_ x1,belowOf by_ x2].take 2).flatten.length n5_) (belowF by_ ⟨x0,x1,x2⟩):=by
     have e : belowF by_ ⟨x0,x1,x2⟩ = ([belowOf by_ x1,belowOf by_ x2].take 2).flatten:=by simp [belowF]
     rw [e]
     exact HR.out
    have HR3:=A0_.mk hr
    clear hr
    go_wp2
    repeat (go_quiet (fail);try go_wp2)
    go_ret
    exact ⟨_,rfl,HR3.out,HB.out⟩
end Go.Proofs.YtdmngdohlobogaaGreatDoor.Asc
end
