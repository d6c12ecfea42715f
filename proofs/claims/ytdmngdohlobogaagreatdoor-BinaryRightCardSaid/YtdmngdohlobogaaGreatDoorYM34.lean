import Derived.Test.YtdmngdohlobogaaGreatDoorYSHCheck
import Derived.Test.YtdmngdohlobogaaGreatDoorYBOrd
section
namespace Go.Proofs.YtdmngdohlobogaaGreatDoor.Asc
open Go Go.RowKit Go.Proofs.YtdmngdohlobogaaGreatDoorW.PrintWords Go.Proofs.YtdmngdohlobogaaGreatDoorW.PrintLast Go.Proofs.YtdmngdohlobogaaGreatDoorW.PrintMore
set_option linter.unusedVariables false
set_option linter.unusedSimpArgs false
structure Look0 (c : S65) : Prop where
 sz : sizesF c = 0
 df : (definesF c (by0 c)).2.1 = 0
 us : (usesF c (definesF c (by0 c)).2.2).2 = 0
 tl : lookTail c (definesF c (by0 c)).2.2 = (0,0)
theorem look0 {c : S65} (h : (lookF c).2 = 0) : Look0 c ∧ lookF c = (0,0):=by
 unfold lookF at h ⊢
 by_cases h1 : sizesF c = 0
 ·rw [if_neg (by simpa using h1)] at h ⊢
  by_cases h2 : (definesF c (by0 c)).2.1 = 0
  ·rw [if_neg (by simpa using h2)] at h ⊢
   by_cases h3 : (usesF c (definesF c (by0 c)).2.2).2 = 0
   ·rw [if_neg (by simpa using h3)] at h ⊢
    have h4 : lookTail c (definesF c (by0 c)).2.2 = (0,0):=by
     unfold lookTail at h ⊢
     split at h
     ·exact absurd h (show ¬ (34 : Int) = 0 by decide)
     ·split at h
      ·exact absurd h (show ¬ (35 : Int) = 0 by decide)
      ·split at h
       ·exact absurd h (show ¬ (36 : Int) = 0 by decide)
       ·rename_i g1 g2 g3
        rw [if_neg g1,if_neg g2,if_neg g3]
    exact ⟨⟨h1,h2,h3,h4⟩,h4⟩
   ·rw [if_pos (by simpa using h3)] at h
    exact absurd h h3
  ·rw [if_pos (by simpa using h2)] at h
   exact absurd h h2
 ·rw [if_pos (by simpa using h1)] at h
  exact absurd h h1
abbrev byF (c : S65) : List S40:=(definesF c (by0 c)).2.2
theorem by_len {c : S65} (h : Short c) : ((byF c).length : Int) = c.f0 + 1:=by
 unfold byF
 rw [defines_len]
 unfold by0
 rw [List.length_replicate]
 have:=h.m0
 omega
theorem by_gates (c : S65) : Gates c.f8.length (byF c):=defines_gates (c:=c) (by_:=by0 c) (fun m hm h3 => by have:=List.eq_of_mem_replicate hm;subst this;exact absurd h3 (by decide))
set_option maxHeartbeats 4000000 in
set_option maxRecDepth 100000 in
theorem orderF_calls {c : S65} {a : CA} {w : World} (hL0 : (lookF c).2 = 0) (hC : CR w c a) (hK : Caps c a) (hj : ∀ r ∈ c.f6,r.length ≤ 140737488355328) (hs10 : ∀ s ∈ c.f10,s.size ≤ 1099511627776) :
  Calls Tryz.prog 38 #[.agg (cellsC c a)] w fun e w' => ∃ u,e = .returned (.tuple #[u,.int .i64 0]) ∧ OwnI w' w.heap.size u (orderF (byF c) c.f8) ∧ Below w.heap.size w w':=by
 have hu65:=Tryz.underlying29
 obtain ⟨k0,k1⟩:=look0 hL0
 have K0:=A0_.mk k0
 have HC:=A0_.mk hC
 have HCAP:=A0_.mk hK
 have HJ:=A0_.mk hj
 have HS10:=A0_.mk hs10
 have HRES:=A0_.mk k1
 clear hC hK hj hs10 hL0 k0 k1
 obtain ⟨A1,A2,A3,A4,A5,A6,A7,A8,A9,A10,c1,c2,c3,c4,c5,c6,c7,c8,c9,c10⟩:=a
 unfold cellsC
 go_enter Tryz.func38,Tryz.ntmps38
 go_upto_region 1 with (fail)
 have hX : BX (w.alloc (.cells #[.int .i64 c.f0,.slice A1 c.f1.length c1,.slice A2 c.f2.length c2,.slice A3 c.f3.length c3,.slice A4 c.f4.length c4,.slice A5 c.f5.length c5,.slice A6 c.f6.length c6,.slice A7 c.f7.length c7,.slice A8 c.f8.length c8,.slice A9 c.f9.length c9,.slice A10 c.f10.length c10] 29)) w.heap.size c ⟨A1,A2,A3,A4,A5,A6,A7,A8,A9,A10,c1,c2,c3,c4,c5,c6,c7,c8,c9,c10⟩:=blk_new w _
 have hB : Below w.heap.size w (w.alloc (.cells #[.int .i64 c.f0,.slice A1 c.f1.length c1,.slice A2 c.f2.length c2,.slice A3 c.f3.length c3,.slice A4 c.f4.length c4,.slice A5 c.f5.length c5,.slice A6 c.f6.length c6,.slice A7 c.f7.length c7,.slice A8 c.f8.length c8,.slice A9 c.f9.length c9,.slice A10 c.f10.length c10] 29)):=eA_ (Below.refl _ _) _
 have HB:=A0_.mk hB
 have hLC:=look_ok (HC.out.below hB) HCAP.out HJ.out HS10.out
 rw [HRES.out] at hLC
 dsimp only [cellsC] at hLC
 have LC:=A0_.mk hLC
 clear hB hLC
 obtain ⟨q,hq⟩ : ∃ q,w.heap.size = q:=⟨_,rfl⟩
 have HQ : A0_ (w.heap.size = q):=⟨hq⟩
 have hX2 : BX (w.alloc (.cells #[.int .i64 c.f0,.slice A1 c.f1.length c1,.slice A2 c.f2.length c2,.slice A3 c.f3.length c3,.slice A4 c.f4.length c4,.slice A5 c.f5.length c5,.slice A6 c.f6.length c6,.slice A7 c.f7.length c7,.slice A8 c.f8.length c8,.slice A9 c.f9.length c9,.slice A10 c.f10.length c10] 29)) q c ⟨A1,A2,A3,A4,A5,A6,A7,A8,A9,A10,c1,c2,c3,c4,c5,c6,c7,c8,c9,c10⟩:=hq ▸ hX
 have HX:=A0_.mk hX2
 clear hX hX2
 rw [hq]
 clear hq
 generalize w.alloc (.cells #[.int .i64 c.f0,.slice A1 c.f1.length c1,.slice A2 c.f2.length c2,.slice A3 c.f3.length c3,.slice A4 c.f4.length c4,.slice A5 c.f5.length c5,.slice A6 c.f6.length c6,.slice A7 c.f7.length c7,.slice A8 c.f8.length c8,.slice A9 c.f9.length c9,.slice A10 c.f10.length c10] 29) = W at HB LC HX ⊢
 have y : W.cell? ⟨q,0,none⟩ = some (.int .i64 c.f0):=(HX.out.cell 0).trans rfl
 have y1 : W.cell? ⟨q,1,none⟩ = some (.slice A1 c.f1.length c1):=(HX.out.cell 1).trans rfl
 have y2 : W.cell? ⟨q,2,none⟩ = some (.slice A2 c.f2.length c2):=(HX.out.cell 2).trans rfl
 have y3 : W.cell? ⟨q,3,none⟩ = some (.slice A3 c.f3.length c3):=(HX.out.cell 3).trans rfl
 have y4 : W.cell? ⟨q,4,none⟩ = some (.slice A4 c.f4.length c4):=(HX.out.cell 4).trans rfl
 have y5 : W.cell? ⟨q,5,none⟩ = some (.slice A5 c.f5.length c5):=(HX.out.cell 5).trans rfl
 have y6 : W.cell? ⟨q,6,none⟩ = some (.slice A6 c.f6.length c6):=(HX.out.cell 6).trans rfl
 have y7 : W.cell? ⟨q,7,none⟩ = some (.slice A7 c.f7.length c7):=(HX.out.cell 7).trans rfl
 have y8 : W.cell? ⟨q,8,none⟩ = some (.slice A8 c.f8.length c8):=(HX.out.cell 8).trans rfl
 have y9 : W.cell? ⟨q,9,none⟩ = some (.slice A9 c.f9.length c9):=(HX.out.cell 9).trans rfl
 have y10 : W.cell? ⟨q,10,none⟩ = some (.slice A10 c.f10.length c10):=(HX.out.cell 10).trans rfl
 go_upto_region 2 with ((with_reducible refine gate_callee (f:=59) rfl ?_);refine goesL_ (some 9) rfl rfl Tryz.func59 (by kernel_rfl) rfl #[.agg #[.int .i64 c.f0,.slice A1 c.f1.length c1,.slice A2 c.f2.length c2,.slice A3 c.f3.length c3,.slice A4 c.f4.length c4,.slice A5 c.f5.length c5,.slice A6 c.f6.length c6,.slice A7 c.f7.length c7,.slice A8 c.f8.length c8,.slice A9 c.f9.length c9,.slice A10 c.f10.length c10]] rfl (by (try simp only [List.map_toArray,List.map_cons,List.map_nil]);first|done|rfl) ?_;(with_reducible refine (LC.out).mono ?_);rintro e w2 ⟨⟨p,rfl,hp⟩,hb2⟩;obtain ⟨lg,bk,rfl,hlk⟩:=hp rfl;refine ⟨_,rfl,?_⟩;have HB2:=A0_.mk (HB.out.trans (lower_ HB.out.size hb2));have HLK:=A0_.mk hlk;clear hb2 hp hlk LC HX HB)
 have hsh:=sizes_short K0.out.sz
 have OC:=A0_.mk (order_calls HLK.out (HC.out.below HB2.out) hsh.m1 (by_len hsh) hsh.l8 (uses_ands K0.out.us) (by_gates c))
 have HS2 : A0_ (w.heap.size ≤ w2.heap.size):=⟨HB2.out.size⟩
 clear hsh HLK
 go_wp2_with (first|((with_reducible refine gate_callee (f:=68) rfl ?_);refine goesL_ (some 17) rfl rfl Tryz.func68 (by kernel_rfl) rfl #[.pointer (some ⟨lg,0,none⟩)] rfl (by (try simp only [List.map_toArray,List.map_cons,List.map_nil]);first|done|rfl) ?_;(with_reducible refine (OC.out).mono ?_);rintro e w3 ⟨u,rfl,hu,hb3⟩;refine ⟨_,rfl,?_⟩;have HB3:=A0_.mk (HB2.out.trans (lower_ HB2.out.size hb3));have HU:=A0_.mk (Kd.R_lower hu HS2.out);clear hb3 hu OC HB2)|go_in)
 repeat (go_quiet (fail);try go_wp2)
 show bodyPost _ _ _ _ _ _
 refine bodyPost_ret (results_tmp2 rfl _ _ _) rfl ?_
 exact ⟨_,rfl,HQ.out ▸ HU.out,HQ.out ▸ HB3.out⟩
end Go.Proofs.YtdmngdohlobogaaGreatDoor.Asc
end
section
namespace Go.Proofs.YtdmngdohlobogaaGreatDoor.Asc
open Go Go.RowKit Go.Proofs.YtdmngdohlobogaaGreatDoorW.PrintWords Go.Proofs.YtdmngdohlobogaaGreatDoorW.PrintLast Go.Proofs.YtdmngdohlobogaaGreatDoorW.PrintMore
set_option linter.unusedVariables false
set_option linter.unusedSimpArgs false
def kraw : Kd (Option Addr × Nat × Nat):=Kd.scalar (fun p => .slice p.1 p.2.1 p.2.2) (fun _ => rfl)
theorem R_none {α : Type} {k : Kd α} {e : Nat} (w : World) : k.R e (w.alloc (.cells #[] e)) w.heap.size (fun _ => True) (.slice (some ⟨w.heap.size,0,none⟩) 0 0) [] :=
 ⟨fun _ _ => trivial,[],World.ownsRow_made w #[] 0 (Nat.le_refl _) (Nat.zero_le _) (by simp),⟨by simp,fun j p hj => by simp at hj⟩⟩
set_option maxHeartbeats 2000000 in
set_option maxRecDepth 100000 in
theorem clone69_calls {w : World} {A : Option Addr} {cp : Nat} {l : List Int} (hC : Kd.C (Kd.int .i64) w A l.length l) (hl : l.length * 8 ≤ 140737488355328) :
  Calls Tryz.prog 69 #[.slice A l.length cp] w fun e w' => ∃ v,e = .returned v ∧ Kd.R (Kd.int .i64) 3 w' w.heap.size (fun _ => True) v l ∧ Below w.heap.size w w':=by
 have hu:=Tryz.underlying22
 have q : ∀ (w : World) (a : Option Addr) (n c n' c' : Nat),(binOp .eql 22 (.slice a n c) (.slice none n' c')).run Tryz.prog w = .ok (.bool a.isNone) w:=fun w a n c n' c' => Lib.run_eql_slice_nil w _ _ a n c n' c' Tryz.underlying22
 have HC:=A0_.mk hC
 have HL:=A0_.mk hl
 clear hC hl
 go_enter Tryz.func69,Tryz.ntmps69
 rcases A with _|ad
 ·have h0 : l = []:=by
   have h1:=Kd.C_len HC.out
   rcases l with _|⟨x,l⟩
   ·rfl
   ·obtain ⟨_,_,h⟩:=HC.out
    obtain ⟨ad,h,_⟩:=h (by simp)
    cases h
  subst h0
  go_wp2
  repeat (go_quiet (fail);try go_wp2)
  go_ret
  exact ⟨_,rfl,Kd.R_nil _ _ _ _ _,Below.refl _ _⟩
 ·go_upto_region 3 with (fail)
  go_wp2_with (at_builtin;refine Kd.R_append_rows (Kd.int .i64) (Rr:=(Kd.int .i64).K w) (w0:=w) w.heap.size rfl (.tmp 5) (.tmp 6) 22 3 (.int .i64 0) 8 rfl Tryz.underlying22 (by kernel_rfl) rfl (by decide) (by decide) _ [] l (some ad) l.length cp (fun _ => True) (fun _ => False) rfl rfl (R_none w) (show Kd.C (Kd.int .i64) (w.alloc (.cells #[] 3)) (some ad) l.length l from Kd.C_alloc HC.out _) (fun _ _ h => h) (fun _ h => h.elim) (fun _ _ => trivial) (eA_ (Below.refl _ _) _) (by rw [World.size_alloc];omega) (by have:=HL.out;simpa using this) ?_;intro v5 w5 hr5 hb5 hg5 hat5;have HR5:=A0_.mk hr5;have HB5:=A0_.mk hb5;clear hr5 hb5 hg5 hat5)
  repeat (go_quiet (fail);try go_wp2)
  go_ret
  exact ⟨_,rfl,HR5.out,HB5.out⟩
set_option maxHeartbeats 2000000 in
set_option maxRecDepth 100000 in
theorem clone70_calls {w : World} {A : Option Addr} {cp : Nat} {l : List S108} (hC : Kd.C k108 w A l.length l) (hl : l.length * 24 ≤ 140737488355328) :
  Calls Tryz.prog 70 #[.slice A l.length cp] w fun e w' => ∃ v,e = .returned v ∧ Kd.R k108 61 w' w.heap.size (fun _ => True) v l ∧ Below w.heap.size w w':=by
 have hu:=Tryz.underlying23
 have q : ∀ (w : World) (a : Option Addr) (n c n' c' : Nat),(binOp .eql 23 (.slice a n c) (.slice none n' c')).run Tryz.prog w = .ok (.bool a.isNone) w:=fun w a n c n' c' => Lib.run_eql_slice_nil w _ _ a n c n' c' Tryz.underlying23
 have HC:=A0_.mk hC
 have HL:=A0_.mk hl
 clear hC hl
 go_enter Tryz.func70,Tryz.ntmps70
 rcases A with _|ad
 ·have h0 : l = []:=by
   have h1:=Kd.C_len HC.out
   rcases l with _|⟨x,l⟩
   ·rfl
   ·obtain ⟨_,_,h⟩:=HC.out
    obtain ⟨ad,h,_⟩:=h (by simp)
    cases h
  subst h0
  go_wp2
  repeat (go_quiet (fail);try go_wp2)
  go_ret
  exact ⟨_,rfl,Kd.R_nil _ _ _ _ _,Below.refl _ _⟩
 ·go_upto_region 3 with (fail)
  go_wp2_with (at_builtin;refine Kd.R_append_rows k108 (Rr:=k108.K w) (w0:=w) w.heap.size rfl (.tmp 5) (.tmp 6) 23 61 (.agg #[(.int .i64 0),(.int .i64 0),(.int .i64 0)]) 24 rfl Tryz.underlying23 (by kernel_rfl) rfl (by decide) (by decide) _ [] l (some ad) l.length cp (fun _ => True) (fun _ => False) rfl rfl (R_none w) (show Kd.C k108 (w.alloc (.cells #[] 61)) (some ad) l.length l from Kd.C_alloc HC.out _) (fun _ _ h => (k108_open h) ▸ k108_mkM _ _ _ _) (fun _ h => h.elim) (fun _ _ => trivial) (eA_ (Below.refl _ _) _) (by rw [World.size_alloc];omega) (by have:=HL.out;simpa using this) ?_;intro v5 w5 hr5 hb5 hg5 hat5;have HR5:=A0_.mk hr5;have HB5:=A0_.mk hb5;clear hr5 hb5 hg5 hat5)
  repeat (go_quiet (fail);try go_wp2)
  go_ret
  exact ⟨_,rfl,HR5.out,HB5.out⟩
set_option maxHeartbeats 2000000 in
set_option maxRecDepth 100000 in
theorem clone71_calls {w : World} {A : Option Addr} {cp : Nat} {l : List S125} (hC : Kd.C k125 w A l.length l) (hl : l.length * 24 ≤ 140737488355328) :
  Calls Tryz.prog 71 #[.slice A l.length cp] w fun e w' => ∃ v,e = .returned v ∧ Kd.R k125 75 w' w.heap.size (fun _ => True) v l ∧ Below w.heap.size w w':=by
 have hu:=Tryz.underlying25
 have q : ∀ (w : World) (a : Option Addr) (n c n' c' : Nat),(binOp .eql 25 (.slice a n c) (.slice none n' c')).run Tryz.prog w = .ok (.bool a.isNone) w:=fun w a n c n' c' => Lib.run_eql_slice_nil w _ _ a n c n' c' Tryz.underlying25
 have HC:=A0_.mk hC
 have HL:=A0_.mk hl
 clear hC hl
 go_enter Tryz.func71,Tryz.ntmps71
 rcases A with _|ad
 ·have h0 : l = []:=by
   have h1:=Kd.C_len HC.out
   rcases l with _|⟨x,l⟩
   ·rfl
   ·obtain ⟨_,_,h⟩:=HC.out
    obtain ⟨ad,h,_⟩:=h (by simp)
    cases h
  subst h0
  go_wp2
  repeat (go_quiet (fail);try go_wp2)
  go_ret
  exact ⟨_,rfl,Kd.R_nil _ _ _ _ _,Below.refl _ _⟩
 ·go_upto_region 3 with (fail)
  go_wp2_with (at_builtin;refine Kd.R_append_rows k125 (Rr:=k125.K w) (w0:=w) w.heap.size rfl (.tmp 5) (.tmp 6) 25 75 (.agg #[(.int .i64 0),(.int .i64 0),(.int .i64 0)]) 24 rfl Tryz.underlying25 (by kernel_rfl) rfl (by decide) (by decide) _ [] l (some ad) l.length cp (fun _ => True) (fun _ => False) rfl rfl (R_none w) (show Kd.C k125 (w.alloc (.cells #[] 75)) (some ad) l.length l from Kd.C_alloc HC.out _) (fun _ _ h => (k125_open h) ▸ k125_mkM _ _ _ _) (fun _ h => h.elim) (fun _ _ => trivial) (eA_ (Below.refl _ _) _) (by rw [World.size_alloc];omega) (by have:=HL.out;simpa using this) ?_;intro v5 w5 hr5 hb5 hg5 hat5;have HR5:=A0_.mk hr5;have HB5:=A0_.mk hb5;clear hr5 hb5 hg5 hat5)
  repeat (go_quiet (fail);try go_wp2)
  go_ret
  exact ⟨_,rfl,HR5.out,HB5.out⟩
set_option maxHeartbeats 2000000 in
set_option maxRecDepth 100000 in
theorem clone72_calls {w : World} {A : Option Addr} {cp : Nat} {l : List S59} (hC : Kd.C k59 w A l.length l) (hl : l.length * 32 ≤ 140737488355328) :
  Calls Tryz.prog 72 #[.slice A l.length cp] w fun e w' => ∃ v,e = .returned v ∧ Kd.R k59 77 w' w.heap.size (fun _ => True) v l ∧ Below w.heap.size w w':=by
 have hu:=Tryz.underlying26
 have q : ∀ (w : World) (a : Option Addr) (n c n' c' : Nat),(binOp .eql 26 (.slice a n c) (.slice none n' c')).run Tryz.prog w = .ok (.bool a.isNone) w:=fun w a n c n' c' => Lib.run_eql_slice_nil w _ _ a n c n' c' Tryz.underlying26
 have HC:=A0_.mk hC
 have HL:=A0_.mk hl
 clear hC hl
 go_enter Tryz.func72,Tryz.ntmps72
 rcases A with _|ad
 ·have h0 : l = []:=by
   have h1:=Kd.C_len HC.out
   rcases l with _|⟨x,l⟩
   ·rfl
   ·obtain ⟨_,_,h⟩:=HC.out
    obtain ⟨ad,h,_⟩:=h (by simp)
    cases h
  subst h0
  go_wp2
  repeat (go_quiet (fail);try go_wp2)
  go_ret
  exact ⟨_,rfl,Kd.R_nil _ _ _ _ _,Below.refl _ _⟩
 ·go_upto_region 3 with (fail)
  go_wp2_with (at_builtin;refine Kd.R_append_rows k59 (Rr:=k59.K w) (w0:=w) w.heap.size rfl (.tmp 5) (.tmp 6) 26 77 (.agg #[(.int .u8 0),(.int .i64 0),(.string ⟨#[]⟩)]) 32 rfl Tryz.underlying26 (by kernel_rfl) rfl (by decide) (by decide) _ [] l (some ad) l.length cp (fun _ => True) (fun _ => False) rfl rfl (R_none w) (show Kd.C k59 (w.alloc (.cells #[] 77)) (some ad) l.length l from Kd.C_alloc HC.out _) (fun _ _ h => (k59_open h) ▸ k59_mkM _ _ _ _) (fun _ h => h.elim) (fun _ _ => trivial) (eA_ (Below.refl _ _) _) (by rw [World.size_alloc];omega) (by have:=HL.out;simpa using this) ?_;intro v5 w5 hr5 hb5 hg5 hat5;have HR5:=A0_.mk hr5;have HB5:=A0_.mk hb5;clear hr5 hb5 hg5 hat5)
  repeat (go_quiet (fail);try go_wp2)
  go_ret
  exact ⟨_,rfl,HR5.out,HB5.out⟩
set_option maxHeartbeats 2000000 in
set_option maxRecDepth 100000 in
theorem clone73_calls {w : World} {A : Option Addr} {cp : Nat} {l : List ByteArray} (hC : Kd.C Kd.string w A l.length l) (hl : l.length * 16 ≤ 140737488355328) :
  Calls Tryz.prog 73 #[.slice A l.length cp] w fun e w' => ∃ v,e = .returned v ∧ Kd.R Kd.string 9 w' w.heap.size (fun _ => True) v l ∧ Below w.heap.size w w':=by
 have hu:=Tryz.underlying27
 have q : ∀ (w : World) (a : Option Addr) (n c n' c' : Nat),(binOp .eql 27 (.slice a n c) (.slice none n' c')).run Tryz.prog w = .ok (.bool a.isNone) w:=fun w a n c n' c' => Lib.run_eql_slice_nil w _ _ a n c n' c' Tryz.underlying27
 have HC:=A0_.mk hC
 have HL:=A0_.mk hl
 clear hC hl
 go_enter Tryz.func73,Tryz.ntmps73
 rcases A with _|ad
 ·have h0 : l = []:=by
   have h1:=Kd.C_len HC.out
   rcases l with _|⟨x,l⟩
   ·rfl
   ·obtain ⟨_,_,h⟩:=HC.out
    obtain ⟨ad,h,_⟩:=h (by simp)
    cases h
  subst h0
  go_wp2
  repeat (go_quiet (fail);try go_wp2)
  go_ret
  exact ⟨_,rfl,Kd.R_nil _ _ _ _ _,Below.refl _ _⟩
 ·go_upto_region 3 with (fail)
  go_wp2_with (at_builtin;refine Kd.R_append_rows Kd.string (Rr:=Kd.string.K w) (w0:=w) w.heap.size rfl (.tmp 5) (.tmp 6) 27 9 (.string ⟨#[]⟩) 16 rfl Tryz.underlying27 (by kernel_rfl) rfl (by decide) (by decide) _ [] l (some ad) l.length cp (fun _ => True) (fun _ => False) rfl rfl (R_none w) (show Kd.C Kd.string (w.alloc (.cells #[] 9)) (some ad) l.length l from Kd.C_alloc HC.out _) (fun _ _ h => h) (fun _ h => h.elim) (fun _ _ => trivial) (eA_ (Below.refl _ _) _) (by rw [World.size_alloc];omega) (by have:=HL.out;simpa using this) ?_;intro v5 w5 hr5 hb5 hg5 hat5;have HR5:=A0_.mk hr5;have HB5:=A0_.mk hb5;clear hr5 hb5 hg5 hat5)
  repeat (go_quiet (fail);try go_wp2)
  go_ret
  exact ⟨_,rfl,HR5.out,HB5.out⟩
set_option maxHeartbeats 2000000 in
set_option maxRecDepth 100000 in
theorem clone74_calls {w : World} {A : Option Addr} {cp : Nat} {l : List (Option Addr × Nat × Nat)} (hC : Kd.C kraw w A l.length l) (hl : l.length * 24 ≤ 140737488355328) :
  Calls Tryz.prog 74 #[.slice A l.length cp] w fun e w' => ∃ v,e = .returned v ∧ Kd.R kraw 22 w' w.heap.size (fun _ => True) v l ∧ Below w.heap.size w w':=by
 have hu:=Tryz.underlying24
 have q : ∀ (w : World) (a : Option Addr) (n c n' c' : Nat),(binOp .eql 24 (.slice a n c) (.slice none n' c')).run Tryz.prog w = .ok (.bool a.isNone) w:=fun w a n c n' c' => Lib.run_eql_slice_nil w _ _ a n c n' c' Tryz.underlying24
 have HC:=A0_.mk hC
 have HL:=A0_.mk hl
 clear hC hl
 go_enter Tryz.func74,Tryz.ntmps74
 rcases A with _|ad
 ·have h0 : l = []:=by
   have h1:=Kd.C_len HC.out
   rcases l with _|⟨x,l⟩
   ·rfl
   ·obtain ⟨_,_,h⟩:=HC.out
    obtain ⟨ad,h,_⟩:=h (by simp)
    cases h
  subst h0
  go_wp2
  repeat (go_quiet (fail);try go_wp2)
  go_ret
  exact ⟨_,rfl,Kd.R_nil _ _ _ _ _,Below.refl _ _⟩
 ·go_upto_region 3 with (fail)
  go_wp2_with (at_builtin;refine Kd.R_append_rows kraw (Rr:=kraw.K w) (w0:=w) w.heap.size rfl (.tmp 5) (.tmp 6) 24 22 (.slice none 0 0) 24 rfl Tryz.underlying24 (by kernel_rfl) rfl (by decide) (by decide) _ [] l (some ad) l.length cp (fun _ => True) (fun _ => False) rfl rfl (R_none w) (show Kd.C kraw (w.alloc (.cells #[] 22)) (some ad) l.length l from Kd.C_alloc HC.out _) (fun _ _ h => h) (fun _ h => h.elim) (fun _ _ => trivial) (eA_ (Below.refl _ _) _) (by rw [World.size_alloc];omega) (by have:=HL.out;simpa using this) ?_;intro v5 w5 hr5 hb5 hg5 hat5;have HR5:=A0_.mk hr5;have HB5:=A0_.mk hb5;clear hr5 hb5 hg5 hat5)
  repeat (go_quiet (fail);try go_wp2)
  go_ret
  exact ⟨_,rfl,HR5.out,HB5.out⟩
end Go.Proofs.YtdmngdohlobogaaGreatDoor.Asc
end
