import Derived.Test.YtdmngdohlobogaaGreatDoorXM39
import Derived.Test.YtdmngdohlobogaaGreatDoorXM30
namespace Go.Proofs.YtdmngdohlobogaaGreatDoor.Asc
open Go Go.RowKit Go.Proofs.YtdmngdohlobogaaGreatDoorW.PrintWords Go.Proofs.YtdmngdohlobogaaGreatDoorW.PrintLast Go.Proofs.YtdmngdohlobogaaGreatDoorW.PrintMore
set_option linter.unusedVariables false
set_option linter.unusedSimpArgs false
attribute [local go_sem high] eqA40
theorem other_law (s : ByteArray) : (eitherF s = readB s ∧ (readF s).2.2 ≠ 0) ∨ (eitherF s = readF s ∧ (readB s).2.2 ≠ 0):=by
 unfold eitherF
 by_cases h1 : (headF s).2.2.2 ≠ 0
 ·left
  rw [if_pos h1]
  unfold readB readF
  rw [if_pos h1,if_pos h1]
  exact ⟨rfl,h1⟩
 ·rw [if_neg h1]
  by_cases h2 : (headF s).1 = aigB
  ·left
   rw [if_pos h2]
   refine ⟨rfl,?_⟩
   unfold readF
   rw [if_neg h1,if_pos (by rw [h2];decide)]
   decide
  ·right
   rw [if_neg h2]
   refine ⟨rfl,?_⟩
   unfold readB
   rw [if_neg h1,if_pos h2]
   decide
theorem readEnd_ok {c x : S65} {t : List S59 × List ByteArray × Int × Int} {a : Int} (h : readEnd c t = (x,a,0)) : x = { c with f9:=t.1,f10:=t.2.1 } ∧ (lookF x).2 = 0:=by
 unfold readEnd at h
 split at h
 ·rename_i h1
  injection h with _ h
  injection h with _ h
  exact absurd h h1
 ·split at h
  ·rename_i h1
   injection h with _ h
   injection h with _ h
   exact absurd h h1
  ·rename_i h1
   injection h with h _
   subst h
   exact ⟨rfl,Decidable.not_not.1 h1⟩
theorem look_short {x : S65} (h0 : (lookF x).2 = 0) : Short x:=by
 apply sizes_short
 unfold lookF at h0
 by_cases hz : sizesF x ≠ 0
 ·rw [if_pos hz] at h0
  exact absurd h0 hz
 ·exact Decidable.not_not.1 hz
theorem bigB_short {c : S65} (h : Short c) : c.f1.length ≤ 9223372036854775806 ∧ c.f2.length ≤ 9223372036854775806 ∧ c.f3.length ≤ 9223372036854775806 ∧ c.f4.length ≤ 9223372036854775806 ∧ c.f5.length ≤ 9223372036854775806 ∧ c.f6.length ≤ 9223372036854775806 ∧ c.f7.length ≤ 9223372036854775806 ∧ c.f8.length ≤ 9223372036854775806 ∧ c.f9.length ≤ 9223372036854775806 ∧ c.f10.length ≤ 9223372036854775806:=by
 have:=h.l1;have:=h.l2;have:=h.l3;have:=h.l4;have:=h.l5;have:=h.l6;have:=h.l7;have:=h.l8;have:=h.l9;have:=h.l10
 omega
theorem formB_just {s : ByteArray} {m0 m1 m2 m3 m5 m6 m7 m8 p q : Nat} {c : S65} (h : formB s m0 m1 m2 m3 m5 m6 m7 m8 p = .ok (c,q)) : ∀ r ∈ c.f6,r.length ≤ 16384:=by
 unfold formB at h
 split at h
 ·cases h
 ·split at h
  ·cases h
  ·split at h
   ·cases h
   ·split at h
    ·cases h
    ·split at h
     ·cases h
     ·rename_i hj
      split at h
      ·cases h
      ·injection h with h
       injection h with h _
       subst h
       exact justAllB_len hj
theorem readB_ok {s : ByteArray} {x : S65} {a : Int} (h : readB s = (x,a,0)) : Short x ∧ ∀ r ∈ x.f6,r.length ≤ 16384:=by
 unfold readB at h
 split at h
 ·rename_i h1
  injection h with _ h
  injection h with _ h
  exact absurd h h1
 ·split at h
  ·injection h with _ h
   injection h with _ h
   exact absurd h (by decide)
  ·split at h
   ·injection h with _ h
    injection h with _ h
    exact absurd h (by decide)
   ·unfold readGatesB at h
    split at h
    ·injection h with _ h
     injection h with _ h
     exact absurd h (by decide)
    ·rename_i c q hf
     split at h
     ·injection h with _ h
      injection h with _ h
      exact absurd h (by decide)
     ·obtain ⟨hx,h0⟩:=readEnd_ok h
      refine ⟨look_short h0,?_⟩
      subst hx
      have h6:=formB_just hf
      exact h6
theorem readF_ok {s : ByteArray} {x : S65} (h : readF s = (x,0,0)) : Short x ∧ ∀ r ∈ x.f6,r.length ≤ 16384:=by
 have hl:=right_law s
 rw [h] at hl
 rcases hl with hl|hl
 ·exact absurd rfl hl.1
 ·exact ⟨look_short hl.2.2.1,(readF_fits h).2.1⟩
set_option maxHeartbeats 4000000 in
set_option maxRecDepth 100000 in
theorem other_bin {w : World} {s : ByteArray} {y0 : Int} { y1 : List Int} { y2 : List S108} { y3 : List Int} { y4 : List Int} { y5 : List Int} { y6 : List (List Int)} { y7 : List Int} { y8 : List S125} { y9 : List S59} { y10 : List ByteArray} {z0 : Int} { z1 : List Int} { z2 : List S108} { z3 : List Int} { z4 : List Int} { z5 : List Int} { z6 : List (List Int)} { z7 : List Int} { z8 : List S125} { z9 : List S59} { z10 : List ByteArray} {a1 e1 a2 e2 : Int} (hG : GV w) (hs : s.size ≤ 140737488355328) (hA : readB s = (⟨y0,y1,y2,y3,y4,y5,y6,y7,y8,y9,y10⟩,a1,e1)) (hF : readF s = (⟨z0,z1,z2,z3,z4,z5,z6,z7,z8,z9,z10⟩,a2,e2)) (hE : eitherF s = (⟨y0,y1,y2,y3,y4,y5,y6,y7,y8,y9,y10⟩,a1,e1)) (hne : e2 ≠ 0) :
  Calls Tryz.prog 6 #[.string s] w fun e w' => e = .returned (.bool true) ∧ Below w.heap.size w w':=by
 have HG:=A0_.mk hG
 have HS:=A0_.mk hs
 have HEa:=A0_.mk hA
 have HEb:=A0_.mk hF
 have HEc:=A0_.mk hE
 have HNE:=A0_.mk hne
 clear hG hs hA hF hE hne
 go_enter Tryz.func6,Tryz.ntmps6
 go_upto_region 3 with (go_at_call 11;refine (worksB_calls HG.out).mono ?_;rintro e w1 ⟨rfl,hb1⟩;have HB1:=A0_.mk hb1;clear hb1)
 go_upto_region 4 with (go_at_call 7;refine (readB_calls (GV_below HG.out HB1.out) HS.out).mono ?_;rw [HEa.out];rintro e wa ⟨v,rfl,hrows,hb⟩;obtain ⟨v1,v2,v3,v4,v5,v6,v7,v8,v9,v10⟩:=v;obtain ⟨Aa1,na1,rfl⟩:=Kd.R_slice (CRows.r1 hrows);obtain ⟨Aa2,na2,rfl⟩:=Kd.R_slice (CRows.r2 hrows);obtain ⟨Aa3,na3,rfl⟩:=Kd.R_slice (CRows.r3 hrows);obtain ⟨Aa4,na4,rfl⟩:=Kd.R_slice (CRows.r4 hrows);obtain ⟨Aa5,na5,rfl⟩:=Kd.R_slice (CRows.r5 hrows);obtain ⟨Aa6,na6,rfl⟩:=Kd.R_slice (CRows.r6 hrows);obtain ⟨Aa7,na7,rfl⟩:=Kd.R_slice (CRows.r7 hrows);obtain ⟨Aa8,na8,rfl⟩:=Kd.R_slice (CRows.r8 hrows);obtain ⟨Aa9,na9,rfl⟩:=Kd.R_slice (CRows.r9 hrows);obtain ⟨Aa10,na10,rfl⟩:=Kd.R_slice (CRows.r10 hrows);have HBa':=A0_.mk (HB1.out.trans (hb.mono HB1.out.size));have Ra0:=A0_.mk hrows;dsimp only [cellsV];clear hrows hb)
 have hf:=blk_new (wa.alloc (.cells #[.int .i64 y0,.slice Aa1 y1.length na1,.slice Aa2 y2.length na2,.slice Aa3 y3.length na3,.slice Aa4 y4.length na4,.slice Aa5 y5.length na5,.slice Aa6 y6.length na6,.slice Aa7 y7.length na7,.slice Aa8 y8.length na8,.slice Aa9 y9.length na9,.slice Aa10 y10.length na10] 29)) (.cells #[.int .i64 a1,.int .i64 e1] 32)
 simp only [World.size_alloc] at hf
 have hc:=bA_ (blk_new wa (.cells #[.int .i64 y0,.slice Aa1 y1.length na1,.slice Aa2 y2.length na2,.slice Aa3 y3.length na3,.slice Aa4 y4.length na4,.slice Aa5 y5.length na5,.slice Aa6 y6.length na6,.slice Aa7 y7.length na7,.slice Aa8 y8.length na8,.slice Aa9 y9.length na9,.slice Aa10 y10.length na10] 29)) (.cells #[.int .i64 a1,.int .i64 e1] 32)
 have hbe : Below wa.heap.size wa ((wa.alloc (.cells #[.int .i64 y0,.slice Aa1 y1.length na1,.slice Aa2 y2.length na2,.slice Aa3 y3.length na3,.slice Aa4 y4.length na4,.slice Aa5 y5.length na5,.slice Aa6 y6.length na6,.slice Aa7 y7.length na7,.slice Aa8 y8.length na8,.slice Aa9 y9.length na9,.slice Aa10 y10.length na10] 29)).alloc (.cells #[.int .i64 a1,.int .i64 e1] 32)):=eA_ (eA_ (Below.refl _ _) _) _
 have HBa:=A0_.mk (HBa'.out.trans (hbe.mono HBa'.out.size))
 have Ra_a:=A0_.mk (Ra0.out.below hbe)
 clear hbe Ra0 HBa'
 generalize (wa.alloc (.cells #[.int .i64 y0,.slice Aa1 y1.length na1,.slice Aa2 y2.length na2,.slice Aa3 y3.length na3,.slice Aa4 y4.length na4,.slice Aa5 y5.length na5,.slice Aa6 y6.length na6,.slice Aa7 y7.length na7,.slice Aa8 y8.length na8,.slice Aa9 y9.length na9,.slice Aa10 y10.length na10] 29)).alloc (.cells #[.int .i64 a1,.int .i64 e1] 32) = ua at hf hc HBa Ra_a  ⊢
 generalize wa.heap.size = ga at hf hc ⊢
 have Ka_a:=A0_.mk hc
 have La_a:=A0_.mk hf
 clear hf hc
 go_upto_region 5 with (go_at_call 17;refine (read_calls (GV_below HG.out HBa.out) HS.out).mono ?_;rw [HEb.out];rintro e wb ⟨v,rfl,hrows,hb⟩;obtain ⟨v1,v2,v3,v4,v5,v6,v7,v8,v9,v10⟩:=v;obtain ⟨Ab1,nb1,rfl⟩:=Kd.R_slice (CRows.r1 hrows);obtain ⟨Ab2,nb2,rfl⟩:=Kd.R_slice (CRows.r2 hrows);obtain ⟨Ab3,nb3,rfl⟩:=Kd.R_slice (CRows.r3 hrows);obtain ⟨Ab4,nb4,rfl⟩:=Kd.R_slice (CRows.r4 hrows);obtain ⟨Ab5,nb5,rfl⟩:=Kd.R_slice (CRows.r5 hrows);obtain ⟨Ab6,nb6,rfl⟩:=Kd.R_slice (CRows.r6 hrows);obtain ⟨Ab7,nb7,rfl⟩:=Kd.R_slice (CRows.r7 hrows);obtain ⟨Ab8,nb8,rfl⟩:=Kd.R_slice (CRows.r8 hrows);obtain ⟨Ab9,nb9,rfl⟩:=Kd.R_slice (CRows.r9 hrows);obtain ⟨Ab10,nb10,rfl⟩:=Kd.R_slice (CRows.r10 hrows);have HBb':=A0_.mk (HBa.out.trans (hb.mono HBa.out.size));have Rb0:=A0_.mk hrows;have Ka_b:=A0_.mk (keep_below Ka_a.out hb);have La_b:=A0_.mk (keep_below La_a.out hb);have Ra_b:=A0_.mk (Ra_a.out.below hb);dsimp only [cellsV];clear hrows hb)
 have hf:=blk_new (wb.alloc (.cells #[.int .i64 z0,.slice Ab1 z1.length nb1,.slice Ab2 z2.length nb2,.slice Ab3 z3.length nb3,.slice Ab4 z4.length nb4,.slice Ab5 z5.length nb5,.slice Ab6 z6.length nb6,.slice Ab7 z7.length nb7,.slice Ab8 z8.length nb8,.slice Ab9 z9.length nb9,.slice Ab10 z10.length nb10] 29)) (.cells #[.int .i64 a2,.int .i64 e2] 32)
 simp only [World.size_alloc] at hf
 have hc:=bA_ (blk_new wb (.cells #[.int .i64 z0,.slice Ab1 z1.length nb1,.slice Ab2 z2.length nb2,.slice Ab3 z3.length nb3,.slice Ab4 z4.length nb4,.slice Ab5 z5.length nb5,.slice Ab6 z6.length nb6,.slice Ab7 z7.length nb7,.slice Ab8 z8.length nb8,.slice Ab9 z9.length nb9,.slice Ab10 z10.length nb10] 29)) (.cells #[.int .i64 a2,.int .i64 e2] 32)
 have hbe : Below wb.heap.size wb ((wb.alloc (.cells #[.int .i64 z0,.slice Ab1 z1.length nb1,.slice Ab2 z2.length nb2,.slice Ab3 z3.length nb3,.slice Ab4 z4.length nb4,.slice Ab5 z5.length nb5,.slice Ab6 z6.length nb6,.slice Ab7 z7.length nb7,.slice Ab8 z8.length nb8,.slice Ab9 z9.length nb9,.slice Ab10 z10.length nb10] 29)).alloc (.cells #[.int .i64 a2,.int .i64 e2] 32)):=eA_ (eA_ (Below.refl _ _) _) _
 have HBb:=A0_.mk (HBb'.out.trans (hbe.mono HBb'.out.size))
 have Rb_b:=A0_.mk (Rb0.out.below hbe)
 replace Ka_b:=A0_.mk (keep_below Ka_b.out hbe)
 replace La_b:=A0_.mk (keep_below La_b.out hbe)
 replace Ra_b:=A0_.mk (Ra_b.out.below hbe)
 clear hbe Rb0 HBb' Ka_a La_a Ra_a
 generalize (wb.alloc (.cells #[.int .i64 z0,.slice Ab1 z1.length nb1,.slice Ab2 z2.length nb2,.slice Ab3 z3.length nb3,.slice Ab4 z4.length nb4,.slice Ab5 z5.length nb5,.slice Ab6 z6.length nb6,.slice Ab7 z7.length nb7,.slice Ab8 z8.length nb8,.slice Ab9 z9.length nb9,.slice Ab10 z10.length nb10] 29)).alloc (.cells #[.int .i64 a2,.int .i64 e2] 32) = ub at hf hc HBb Rb_b Ka_b La_b Ra_b ⊢
 generalize wb.heap.size = gb at hf hc ⊢
 have Kb_b:=A0_.mk hc
 have Lb_b:=A0_.mk hf
 clear hf hc
 go_upto_region 6 with (go_at_call 12;refine (either_calls (GV_below HG.out HBb.out) HS.out).mono ?_;rw [HEc.out];rintro e wc ⟨v,rfl,hrows,hb⟩;obtain ⟨v1,v2,v3,v4,v5,v6,v7,v8,v9,v10⟩:=v;obtain ⟨Ac1,nc1,rfl⟩:=Kd.R_slice (CRows.r1 hrows);obtain ⟨Ac2,nc2,rfl⟩:=Kd.R_slice (CRows.r2 hrows);obtain ⟨Ac3,nc3,rfl⟩:=Kd.R_slice (CRows.r3 hrows);obtain ⟨Ac4,nc4,rfl⟩:=Kd.R_slice (CRows.r4 hrows);obtain ⟨Ac5,nc5,rfl⟩:=Kd.R_slice (CRows.r5 hrows);obtain ⟨Ac6,nc6,rfl⟩:=Kd.R_slice (CRows.r6 hrows);obtain ⟨Ac7,nc7,rfl⟩:=Kd.R_slice (CRows.r7 hrows);obtain ⟨Ac8,nc8,rfl⟩:=Kd.R_slice (CRows.r8 hrows);obtain ⟨Ac9,nc9,rfl⟩:=Kd.R_slice (CRows.r9 hrows);obtain ⟨Ac10,nc10,rfl⟩:=Kd.R_slice (CRows.r10 hrows);have HBc':=A0_.mk (HBb.out.trans (hb.mono HBb.out.size));have Rc0:=A0_.mk hrows;have Ka_c:=A0_.mk (keep_below Ka_b.out hb);have La_c:=A0_.mk (keep_below La_b.out hb);have Ra_c:=A0_.mk (Ra_b.out.below hb);have Kb_c:=A0_.mk (keep_below Kb_b.out hb);have Lb_c:=A0_.mk (keep_below Lb_b.out hb);have Rb_c:=A0_.mk (Rb_b.out.below hb);dsimp only [cellsV];clear hrows hb)
 have hf:=blk_new (wc.alloc (.cells #[.int .i64 y0,.slice Ac1 y1.length nc1,.slice Ac2 y2.length nc2,.slice Ac3 y3.length nc3,.slice Ac4 y4.length nc4,.slice Ac5 y5.length nc5,.slice Ac6 y6.length nc6,.slice Ac7 y7.length nc7,.slice Ac8 y8.length nc8,.slice Ac9 y9.length nc9,.slice Ac10 y10.length nc10] 29)) (.cells #[.int .i64 a1,.int .i64 e1] 32)
 simp only [World.size_alloc] at hf
 have hc:=bA_ (blk_new wc (.cells #[.int .i64 y0,.slice Ac1 y1.length nc1,.slice Ac2 y2.length nc2,.slice Ac3 y3.length nc3,.slice Ac4 y4.length nc4,.slice Ac5 y5.length nc5,.slice Ac6 y6.length nc6,.slice Ac7 y7.length nc7,.slice Ac8 y8.length nc8,.slice Ac9 y9.length nc9,.slice Ac10 y10.length nc10] 29)) (.cells #[.int .i64 a1,.int .i64 e1] 32)
 have hbe : Below wc.heap.size wc ((wc.alloc (.cells #[.int .i64 y0,.slice Ac1 y1.length nc1,.slice Ac2 y2.length nc2,.slice Ac3 y3.length nc3,.slice Ac4 y4.length nc4,.slice Ac5 y5.length nc5,.slice Ac6 y6.length nc6,.slice Ac7 y7.length nc7,.slice Ac8 y8.length nc8,.slice Ac9 y9.length nc9,.slice Ac10 y10.length nc10] 29)).alloc (.cells #[.int .i64 a1,.int .i64 e1] 32)):=eA_ (eA_ (Below.refl _ _) _) _
 have HBc:=A0_.mk (HBc'.out.trans (hbe.mono HBc'.out.size))
 have Rc_c:=A0_.mk (Rc0.out.below hbe)
 replace Ka_c:=A0_.mk (keep_below Ka_c.out hbe)
 replace La_c:=A0_.mk (keep_below La_c.out hbe)
 replace Ra_c:=A0_.mk (Ra_c.out.below hbe)
 replace Kb_c:=A0_.mk (keep_below Kb_c.out hbe)
 replace Lb_c:=A0_.mk (keep_below Lb_c.out hbe)
 replace Rb_c:=A0_.mk (Rb_c.out.below hbe)
 clear hbe Rc0 HBc' Ka_b La_b Ra_b Kb_b Lb_b Rb_b
 generalize (wc.alloc (.cells #[.int .i64 y0,.slice Ac1 y1.length nc1,.slice Ac2 y2.length nc2,.slice Ac3 y3.length nc3,.slice Ac4 y4.length nc4,.slice Ac5 y5.length nc5,.slice Ac6 y6.length nc6,.slice Ac7 y7.length nc7,.slice Ac8 y8.length nc8,.slice Ac9 y9.length nc9,.slice Ac10 y10.length nc10] 29)).alloc (.cells #[.int .i64 a1,.int .i64 e1] 32) = uc at hf hc HBc Rc_c Ka_c La_c Ra_c Kb_c Lb_c Rb_c ⊢
 generalize wc.heap.size = gc at hf hc ⊢
 have Kc_c:=A0_.mk hc
 have Lc_c:=A0_.mk hf
 clear hf hc
 have fa0 : uc.cell? ⟨ga + 1,0,none⟩ = some (.int .i64 a1):=bC_ La_c.out 0
 have fa1 : uc.cell? ⟨ga + 1,1,none⟩ = some (.int .i64 e1):=bC_ La_c.out 1
 have fb0 : uc.cell? ⟨gb + 1,0,none⟩ = some (.int .i64 a2):=bC_ Lb_c.out 0
 have fb1 : uc.cell? ⟨gb + 1,1,none⟩ = some (.int .i64 e2):=bC_ Lb_c.out 1
 have fc0 : uc.cell? ⟨gc + 1,0,none⟩ = some (.int .i64 a1):=bC_ Lc_c.out 0
 have fc1 : uc.cell? ⟨gc + 1,1,none⟩ = some (.int .i64 e1):=bC_ Lc_c.out 1
 have b2 : (e2 == 0) = false:=beq_eq_false_iff_ne.2 HNE.out
 have b2' : (e2 != 0) = true:=by rw [bne,b2];rfl
 by_cases h1 : a1 = 0 ∧ e1 = 0
 ·obtain ⟨h1,h2⟩:=h1
  subst h1
  subst h2
  have HOK:=A0_.mk (readB_ok HEa.out)
  have HCa:=A0_.mk (show CR uc ⟨y0,y1,y2,y3,y4,y5,y6,y7,y8,y9,y10⟩ ⟨Aa1,Aa2,Aa3,Aa4,Aa5,Aa6,Aa7,Aa8,Aa9,Aa10,na1,na2,na3,na4,na5,na6,na7,na8,na9,na10⟩ from ⟨(Kd.R_reads' Ra_c.out.r1).2.2,(Kd.R_reads' Ra_c.out.r2).2.2,(Kd.R_reads' Ra_c.out.r3).2.2,(Kd.R_reads' Ra_c.out.r4).2.2,(Kd.R_reads' Ra_c.out.r5).2.2,(Kd.R_reads' Ra_c.out.r6).2.2,(Kd.R_reads' Ra_c.out.r7).2.2,(Kd.R_reads' Ra_c.out.r8).2.2,(Kd.R_reads' Ra_c.out.r9).2.2,(Kd.R_reads' Ra_c.out.r10).2.2⟩)
  have HCc:=A0_.mk (show CR uc ⟨y0,y1,y2,y3,y4,y5,y6,y7,y8,y9,y10⟩ ⟨Ac1,Ac2,Ac3,Ac4,Ac5,Ac6,Ac7,Ac8,Ac9,Ac10,nc1,nc2,nc3,nc4,nc5,nc6,nc7,nc8,nc9,nc10⟩ from ⟨(Kd.R_reads' Rc_c.out.r1).2.2,(Kd.R_reads' Rc_c.out.r2).2.2,(Kd.R_reads' Rc_c.out.r3).2.2,(Kd.R_reads' Rc_c.out.r4).2.2,(Kd.R_reads' Rc_c.out.r5).2.2,(Kd.R_reads' Rc_c.out.r6).2.2,(Kd.R_reads' Rc_c.out.r7).2.2,(Kd.R_reads' Rc_c.out.r8).2.2,(Kd.R_reads' Rc_c.out.r9).2.2,(Kd.R_reads' Rc_c.out.r10).2.2⟩)
  have pa0' : uc.cell? ⟨ga,0,none⟩ = some (.int .i64 y0):=bC_ Ka_c.out 0
  have pa1' : uc.cell? ⟨ga,1,none⟩ = some (.slice Aa1 y1.length na1):=bC_ Ka_c.out 1
  have pa2' : uc.cell? ⟨ga,2,none⟩ = some (.slice Aa2 y2.length na2):=bC_ Ka_c.out 2
  have pa3' : uc.cell? ⟨ga,3,none⟩ = some (.slice Aa3 y3.length na3):=bC_ Ka_c.out 3
  have pa4' : uc.cell? ⟨ga,4,none⟩ = some (.slice Aa4 y4.length na4):=bC_ Ka_c.out 4
  have pa5' : uc.cell? ⟨ga,5,none⟩ = some (.slice Aa5 y5.length na5):=bC_ Ka_c.out 5
  have pa6' : uc.cell? ⟨ga,6,none⟩ = some (.slice Aa6 y6.length na6):=bC_ Ka_c.out 6
  have pa7' : uc.cell? ⟨ga,7,none⟩ = some (.slice Aa7 y7.length na7):=bC_ Ka_c.out 7
  have pa8' : uc.cell? ⟨ga,8,none⟩ = some (.slice Aa8 y8.length na8):=bC_ Ka_c.out 8
  have pa9' : uc.cell? ⟨ga,9,none⟩ = some (.slice Aa9 y9.length na9):=bC_ Ka_c.out 9
  have pa10' : uc.cell? ⟨ga,10,none⟩ = some (.slice Aa10 y10.length na10):=bC_ Ka_c.out 10
  have pc0' : uc.cell? ⟨gc,0,none⟩ = some (.int .i64 y0):=bC_ Kc_c.out 0
  have pc1' : uc.cell? ⟨gc,1,none⟩ = some (.slice Ac1 y1.length nc1):=bC_ Kc_c.out 1
  have pc2' : uc.cell? ⟨gc,2,none⟩ = some (.slice Ac2 y2.length nc2):=bC_ Kc_c.out 2
  have pc3' : uc.cell? ⟨gc,3,none⟩ = some (.slice Ac3 y3.length nc3):=bC_ Kc_c.out 3
  have pc4' : uc.cell? ⟨gc,4,none⟩ = some (.slice Ac4 y4.length nc4):=bC_ Kc_c.out 4
  have pc5' : uc.cell? ⟨gc,5,none⟩ = some (.slice Ac5 y5.length nc5):=bC_ Kc_c.out 5
  have pc6' : uc.cell? ⟨gc,6,none⟩ = some (.slice Ac6 y6.length nc6):=bC_ Kc_c.out 6
  have pc7' : uc.cell? ⟨gc,7,none⟩ = some (.slice Ac7 y7.length nc7):=bC_ Kc_c.out 7
  have pc8' : uc.cell? ⟨gc,8,none⟩ = some (.slice Ac8 y8.length nc8):=bC_ Kc_c.out 8
  have pc9' : uc.cell? ⟨gc,9,none⟩ = some (.slice Ac9 y9.length nc9):=bC_ Kc_c.out 9
  have pc10' : uc.cell? ⟨gc,10,none⟩ = some (.slice Ac10 y10.length nc10):=bC_ Kc_c.out 10
  clear HEa HEb HEc HNE
  go_wp2_with (first|(go_at_call 16;refine (same_calls HCa.out HCc.out (bigB_short HOK.out.1) (fun r hr => by have:=HOK.out.2 r hr;omega)).mono ?_;rintro e w8 ⟨rfl,hb⟩;have HB8:=A0_.mk (HBc.out.trans (hb.mono HBc.out.size));clear hb))
  go_ret
  exact ⟨by simp,HB8.out⟩
 ·have bb : (a1 == 0 && e1 == 0) = false:=by
   by_cases h2 : a1 = 0
   ·have h3 : ¬ e1 = 0:=fun h3 => h1 ⟨h2,h3⟩
    rw [beq_eq_false_iff_ne.2 h3,Bool.and_false]
   ·rw [beq_eq_false_iff_ne.2 h2,Bool.false_and]
  clear h1 HEa HEb HEc HNE
  go_wp2
  go_ret
  exact ⟨by simp,HBc.out⟩
set_option maxHeartbeats 4000000 in
set_option maxRecDepth 100000 in
theorem other_asc {w : World} {s : ByteArray} {y0 : Int} { y1 : List Int} { y2 : List S108} { y3 : List Int} { y4 : List Int} { y5 : List Int} { y6 : List (List Int)} { y7 : List Int} { y8 : List S125} { y9 : List S59} { y10 : List ByteArray} {z0 : Int} { z1 : List Int} { z2 : List S108} { z3 : List Int} { z4 : List Int} { z5 : List Int} { z6 : List (List Int)} { z7 : List Int} { z8 : List S125} { z9 : List S59} { z10 : List ByteArray} {a1 e1 a2 e2 : Int} (hG : GV w) (hs : s.size ≤ 140737488355328) (hA : readB s = (⟨y0,y1,y2,y3,y4,y5,y6,y7,y8,y9,y10⟩,a1,e1)) (hF : readF s = (⟨z0,z1,z2,z3,z4,z5,z6,z7,z8,z9,z10⟩,a2,e2)) (hE : eitherF s = (⟨z0,z1,z2,z3,z4,z5,z6,z7,z8,z9,z10⟩,a2,e2)) (hne : e1 ≠ 0) :
  Calls Tryz.prog 6 #[.string s] w fun e w' => e = .returned (.bool true) ∧ Below w.heap.size w w':=by
 have HG:=A0_.mk hG
 have HS:=A0_.mk hs
 have HEa:=A0_.mk hA
 have HEb:=A0_.mk hF
 have HEc:=A0_.mk hE
 have HNE:=A0_.mk hne
 clear hG hs hA hF hE hne
 go_enter Tryz.func6,Tryz.ntmps6
 go_upto_region 3 with (go_at_call 11;refine (worksB_calls HG.out).mono ?_;rintro e w1 ⟨rfl,hb1⟩;have HB1:=A0_.mk hb1;clear hb1)
 go_upto_region 4 with (go_at_call 7;refine (readB_calls (GV_below HG.out HB1.out) HS.out).mono ?_;rw [HEa.out];rintro e wa ⟨v,rfl,hrows,hb⟩;obtain ⟨v1,v2,v3,v4,v5,v6,v7,v8,v9,v10⟩:=v;obtain ⟨Aa1,na1,rfl⟩:=Kd.R_slice (CRows.r1 hrows);obtain ⟨Aa2,na2,rfl⟩:=Kd.R_slice (CRows.r2 hrows);obtain ⟨Aa3,na3,rfl⟩:=Kd.R_slice (CRows.r3 hrows);obtain ⟨Aa4,na4,rfl⟩:=Kd.R_slice (CRows.r4 hrows);obtain ⟨Aa5,na5,rfl⟩:=Kd.R_slice (CRows.r5 hrows);obtain ⟨Aa6,na6,rfl⟩:=Kd.R_slice (CRows.r6 hrows);obtain ⟨Aa7,na7,rfl⟩:=Kd.R_slice (CRows.r7 hrows);obtain ⟨Aa8,na8,rfl⟩:=Kd.R_slice (CRows.r8 hrows);obtain ⟨Aa9,na9,rfl⟩:=Kd.R_slice (CRows.r9 hrows);obtain ⟨Aa10,na10,rfl⟩:=Kd.R_slice (CRows.r10 hrows);have HBa':=A0_.mk (HB1.out.trans (hb.mono HB1.out.size));have Ra0:=A0_.mk hrows;dsimp only [cellsV];clear hrows hb)
 have hf:=blk_new (wa.alloc (.cells #[.int .i64 y0,.slice Aa1 y1.length na1,.slice Aa2 y2.length na2,.slice Aa3 y3.length na3,.slice Aa4 y4.length na4,.slice Aa5 y5.length na5,.slice Aa6 y6.length na6,.slice Aa7 y7.length na7,.slice Aa8 y8.length na8,.slice Aa9 y9.length na9,.slice Aa10 y10.length na10] 29)) (.cells #[.int .i64 a1,.int .i64 e1] 32)
 simp only [World.size_alloc] at hf
 have hc:=bA_ (blk_new wa (.cells #[.int .i64 y0,.slice Aa1 y1.length na1,.slice Aa2 y2.length na2,.slice Aa3 y3.length na3,.slice Aa4 y4.length na4,.slice Aa5 y5.length na5,.slice Aa6 y6.length na6,.slice Aa7 y7.length na7,.slice Aa8 y8.length na8,.slice Aa9 y9.length na9,.slice Aa10 y10.length na10] 29)) (.cells #[.int .i64 a1,.int .i64 e1] 32)
 have hbe : Below wa.heap.size wa ((wa.alloc (.cells #[.int .i64 y0,.slice Aa1 y1.length na1,.slice Aa2 y2.length na2,.slice Aa3 y3.length na3,.slice Aa4 y4.length na4,.slice Aa5 y5.length na5,.slice Aa6 y6.length na6,.slice Aa7 y7.length na7,.slice Aa8 y8.length na8,.slice Aa9 y9.length na9,.slice Aa10 y10.length na10] 29)).alloc (.cells #[.int .i64 a1,.int .i64 e1] 32)):=eA_ (eA_ (Below.refl _ _) _) _
 have HBa:=A0_.mk (HBa'.out.trans (hbe.mono HBa'.out.size))
 have Ra_a:=A0_.mk (Ra0.out.below hbe)
 clear hbe Ra0 HBa'
 generalize (wa.alloc (.cells #[.int .i64 y0,.slice Aa1 y1.length na1,.slice Aa2 y2.length na2,.slice Aa3 y3.length na3,.slice Aa4 y4.length na4,.slice Aa5 y5.length na5,.slice Aa6 y6.length na6,.slice Aa7 y7.length na7,.slice Aa8 y8.length na8,.slice Aa9 y9.length na9,.slice Aa10 y10.length na10] 29)).alloc (.cells #[.int .i64 a1,.int .i64 e1] 32) = ua at hf hc HBa Ra_a  ⊢
 generalize wa.heap.size = ga at hf hc ⊢
 have Ka_a:=A0_.mk hc
 have La_a:=A0_.mk hf
 clear hf hc
 go_upto_region 5 with (go_at_call 17;refine (read_calls (GV_below HG.out HBa.out) HS.out).mono ?_;rw [HEb.out];rintro e wb ⟨v,rfl,hrows,hb⟩;obtain ⟨v1,v2,v3,v4,v5,v6,v7,v8,v9,v10⟩:=v;obtain ⟨Ab1,nb1,rfl⟩:=Kd.R_slice (CRows.r1 hrows);obtain ⟨Ab2,nb2,rfl⟩:=Kd.R_slice (CRows.r2 hrows);obtain ⟨Ab3,nb3,rfl⟩:=Kd.R_slice (CRows.r3 hrows);obtain ⟨Ab4,nb4,rfl⟩:=Kd.R_slice (CRows.r4 hrows);obtain ⟨Ab5,nb5,rfl⟩:=Kd.R_slice (CRows.r5 hrows);obtain ⟨Ab6,nb6,rfl⟩:=Kd.R_slice (CRows.r6 hrows);obtain ⟨Ab7,nb7,rfl⟩:=Kd.R_slice (CRows.r7 hrows);obtain ⟨Ab8,nb8,rfl⟩:=Kd.R_slice (CRows.r8 hrows);obtain ⟨Ab9,nb9,rfl⟩:=Kd.R_slice (CRows.r9 hrows);obtain ⟨Ab10,nb10,rfl⟩:=Kd.R_slice (CRows.r10 hrows);have HBb':=A0_.mk (HBa.out.trans (hb.mono HBa.out.size));have Rb0:=A0_.mk hrows;have Ka_b:=A0_.mk (keep_below Ka_a.out hb);have La_b:=A0_.mk (keep_below La_a.out hb);have Ra_b:=A0_.mk (Ra_a.out.below hb);dsimp only [cellsV];clear hrows hb)
 have hf:=blk_new (wb.alloc (.cells #[.int .i64 z0,.slice Ab1 z1.length nb1,.slice Ab2 z2.length nb2,.slice Ab3 z3.length nb3,.slice Ab4 z4.length nb4,.slice Ab5 z5.length nb5,.slice Ab6 z6.length nb6,.slice Ab7 z7.length nb7,.slice Ab8 z8.length nb8,.slice Ab9 z9.length nb9,.slice Ab10 z10.length nb10] 29)) (.cells #[.int .i64 a2,.int .i64 e2] 32)
 simp only [World.size_alloc] at hf
 have hc:=bA_ (blk_new wb (.cells #[.int .i64 z0,.slice Ab1 z1.length nb1,.slice Ab2 z2.length nb2,.slice Ab3 z3.length nb3,.slice Ab4 z4.length nb4,.slice Ab5 z5.length nb5,.slice Ab6 z6.length nb6,.slice Ab7 z7.length nb7,.slice Ab8 z8.length nb8,.slice Ab9 z9.length nb9,.slice Ab10 z10.length nb10] 29)) (.cells #[.int .i64 a2,.int .i64 e2] 32)
 have hbe : Below wb.heap.size wb ((wb.alloc (.cells #[.int .i64 z0,.slice Ab1 z1.length nb1,.slice Ab2 z2.length nb2,.slice Ab3 z3.length nb3,.slice Ab4 z4.length nb4,.slice Ab5 z5.length nb5,.slice Ab6 z6.length nb6,.slice Ab7 z7.length nb7,.slice Ab8 z8.length nb8,.slice Ab9 z9.length nb9,.slice Ab10 z10.length nb10] 29)).alloc (.cells #[.int .i64 a2,.int .i64 e2] 32)):=eA_ (eA_ (Below.refl _ _) _) _
 have HBb:=A0_.mk (HBb'.out.trans (hbe.mono HBb'.out.size))
 have Rb_b:=A0_.mk (Rb0.out.below hbe)
 replace Ka_b:=A0_.mk (keep_below Ka_b.out hbe)
 replace La_b:=A0_.mk (keep_below La_b.out hbe)
 replace Ra_b:=A0_.mk (Ra_b.out.below hbe)
 clear hbe Rb0 HBb' Ka_a La_a Ra_a
 generalize (wb.alloc (.cells #[.int .i64 z0,.slice Ab1 z1.length nb1,.slice Ab2 z2.length nb2,.slice Ab3 z3.length nb3,.slice Ab4 z4.length nb4,.slice Ab5 z5.length nb5,.slice Ab6 z6.length nb6,.slice Ab7 z7.length nb7,.slice Ab8 z8.length nb8,.slice Ab9 z9.length nb9,.slice Ab10 z10.length nb10] 29)).alloc (.cells #[.int .i64 a2,.int .i64 e2] 32) = ub at hf hc HBb Rb_b Ka_b La_b Ra_b ⊢
 generalize wb.heap.size = gb at hf hc ⊢
 have Kb_b:=A0_.mk hc
 have Lb_b:=A0_.mk hf
 clear hf hc
 go_upto_region 6 with (go_at_call 12;refine (either_calls (GV_below HG.out HBb.out) HS.out).mono ?_;rw [HEc.out];rintro e wc ⟨v,rfl,hrows,hb⟩;obtain ⟨v1,v2,v3,v4,v5,v6,v7,v8,v9,v10⟩:=v;obtain ⟨Ac1,nc1,rfl⟩:=Kd.R_slice (CRows.r1 hrows);obtain ⟨Ac2,nc2,rfl⟩:=Kd.R_slice (CRows.r2 hrows);obtain ⟨Ac3,nc3,rfl⟩:=Kd.R_slice (CRows.r3 hrows);obtain ⟨Ac4,nc4,rfl⟩:=Kd.R_slice (CRows.r4 hrows);obtain ⟨Ac5,nc5,rfl⟩:=Kd.R_slice (CRows.r5 hrows);obtain ⟨Ac6,nc6,rfl⟩:=Kd.R_slice (CRows.r6 hrows);obtain ⟨Ac7,nc7,rfl⟩:=Kd.R_slice (CRows.r7 hrows);obtain ⟨Ac8,nc8,rfl⟩:=Kd.R_slice (CRows.r8 hrows);obtain ⟨Ac9,nc9,rfl⟩:=Kd.R_slice (CRows.r9 hrows);obtain ⟨Ac10,nc10,rfl⟩:=Kd.R_slice (CRows.r10 hrows);have HBc':=A0_.mk (HBb.out.trans (hb.mono HBb.out.size));have Rc0:=A0_.mk hrows;have Ka_c:=A0_.mk (keep_below Ka_b.out hb);have La_c:=A0_.mk (keep_below La_b.out hb);have Ra_c:=A0_.mk (Ra_b.out.below hb);have Kb_c:=A0_.mk (keep_below Kb_b.out hb);have Lb_c:=A0_.mk (keep_below Lb_b.out hb);have Rb_c:=A0_.mk (Rb_b.out.below hb);dsimp only [cellsV];clear hrows hb)
 have hf:=blk_new (wc.alloc (.cells #[.int .i64 z0,.slice Ac1 z1.length nc1,.slice Ac2 z2.length nc2,.slice Ac3 z3.length nc3,.slice Ac4 z4.length nc4,.slice Ac5 z5.length nc5,.slice Ac6 z6.length nc6,.slice Ac7 z7.length nc7,.slice Ac8 z8.length nc8,.slice Ac9 z9.length nc9,.slice Ac10 z10.length nc10] 29)) (.cells #[.int .i64 a2,.int .i64 e2] 32)
 simp only [World.size_alloc] at hf
 have hc:=bA_ (blk_new wc (.cells #[.int .i64 z0,.slice Ac1 z1.length nc1,.slice Ac2 z2.length nc2,.slice Ac3 z3.length nc3,.slice Ac4 z4.length nc4,.slice Ac5 z5.length nc5,.slice Ac6 z6.length nc6,.slice Ac7 z7.length nc7,.slice Ac8 z8.length nc8,.slice Ac9 z9.length nc9,.slice Ac10 z10.length nc10] 29)) (.cells #[.int .i64 a2,.int .i64 e2] 32)
 have hbe : Below wc.heap.size wc ((wc.alloc (.cells #[.int .i64 z0,.slice Ac1 z1.length nc1,.slice Ac2 z2.length nc2,.slice Ac3 z3.length nc3,.slice Ac4 z4.length nc4,.slice Ac5 z5.length nc5,.slice Ac6 z6.length nc6,.slice Ac7 z7.length nc7,.slice Ac8 z8.length nc8,.slice Ac9 z9.length nc9,.slice Ac10 z10.length nc10] 29)).alloc (.cells #[.int .i64 a2,.int .i64 e2] 32)):=eA_ (eA_ (Below.refl _ _) _) _
 have HBc:=A0_.mk (HBc'.out.trans (hbe.mono HBc'.out.size))
 have Rc_c:=A0_.mk (Rc0.out.below hbe)
 replace Ka_c:=A0_.mk (keep_below Ka_c.out hbe)
 replace La_c:=A0_.mk (keep_below La_c.out hbe)
 replace Ra_c:=A0_.mk (Ra_c.out.below hbe)
 replace Kb_c:=A0_.mk (keep_below Kb_c.out hbe)
 replace Lb_c:=A0_.mk (keep_below Lb_c.out hbe)
 replace Rb_c:=A0_.mk (Rb_c.out.below hbe)
 clear hbe Rc0 HBc' Ka_b La_b Ra_b Kb_b Lb_b Rb_b
 generalize (wc.alloc (.cells #[.int .i64 z0,.slice Ac1 z1.length nc1,.slice Ac2 z2.length nc2,.slice Ac3 z3.length nc3,.slice Ac4 z4.length nc4,.slice Ac5 z5.length nc5,.slice Ac6 z6.length nc6,.slice Ac7 z7.length nc7,.slice Ac8 z8.length nc8,.slice Ac9 z9.length nc9,.slice Ac10 z10.length nc10] 29)).alloc (.cells #[.int .i64 a2,.int .i64 e2] 32) = uc at hf hc HBc Rc_c Ka_c La_c Ra_c Kb_c Lb_c Rb_c ⊢
 generalize wc.heap.size = gc at hf hc ⊢
 have Kc_c:=A0_.mk hc
 have Lc_c:=A0_.mk hf
 clear hf hc
 have fa0 : uc.cell? ⟨ga + 1,0,none⟩ = some (.int .i64 a1):=bC_ La_c.out 0
 have fa1 : uc.cell? ⟨ga + 1,1,none⟩ = some (.int .i64 e1):=bC_ La_c.out 1
 have fb0 : uc.cell? ⟨gb + 1,0,none⟩ = some (.int .i64 a2):=bC_ Lb_c.out 0
 have fb1 : uc.cell? ⟨gb + 1,1,none⟩ = some (.int .i64 e2):=bC_ Lb_c.out 1
 have fc0 : uc.cell? ⟨gc + 1,0,none⟩ = some (.int .i64 a2):=bC_ Lc_c.out 0
 have fc1 : uc.cell? ⟨gc + 1,1,none⟩ = some (.int .i64 e2):=bC_ Lc_c.out 1
 have b1 : (e1 == 0) = false:=beq_eq_false_iff_ne.2 HNE.out
 by_cases h1 : a2 = 0 ∧ e2 = 0
 ·obtain ⟨h1,h2⟩:=h1
  subst h1
  subst h2
  have HOK:=A0_.mk (readF_ok HEb.out)
  have HCb:=A0_.mk (show CR uc ⟨z0,z1,z2,z3,z4,z5,z6,z7,z8,z9,z10⟩ ⟨Ab1,Ab2,Ab3,Ab4,Ab5,Ab6,Ab7,Ab8,Ab9,Ab10,nb1,nb2,nb3,nb4,nb5,nb6,nb7,nb8,nb9,nb10⟩ from ⟨(Kd.R_reads' Rb_c.out.r1).2.2,(Kd.R_reads' Rb_c.out.r2).2.2,(Kd.R_reads' Rb_c.out.r3).2.2,(Kd.R_reads' Rb_c.out.r4).2.2,(Kd.R_reads' Rb_c.out.r5).2.2,(Kd.R_reads' Rb_c.out.r6).2.2,(Kd.R_reads' Rb_c.out.r7).2.2,(Kd.R_reads' Rb_c.out.r8).2.2,(Kd.R_reads' Rb_c.out.r9).2.2,(Kd.R_reads' Rb_c.out.r10).2.2⟩)
  have HCc:=A0_.mk (show CR uc ⟨z0,z1,z2,z3,z4,z5,z6,z7,z8,z9,z10⟩ ⟨Ac1,Ac2,Ac3,Ac4,Ac5,Ac6,Ac7,Ac8,Ac9,Ac10,nc1,nc2,nc3,nc4,nc5,nc6,nc7,nc8,nc9,nc10⟩ from ⟨(Kd.R_reads' Rc_c.out.r1).2.2,(Kd.R_reads' Rc_c.out.r2).2.2,(Kd.R_reads' Rc_c.out.r3).2.2,(Kd.R_reads' Rc_c.out.r4).2.2,(Kd.R_reads' Rc_c.out.r5).2.2,(Kd.R_reads' Rc_c.out.r6).2.2,(Kd.R_reads' Rc_c.out.r7).2.2,(Kd.R_reads' Rc_c.out.r8).2.2,(Kd.R_reads' Rc_c.out.r9).2.2,(Kd.R_reads' Rc_c.out.r10).2.2⟩)
  have pb0' : uc.cell? ⟨gb,0,none⟩ = some (.int .i64 z0):=bC_ Kb_c.out 0
  have pb1' : uc.cell? ⟨gb,1,none⟩ = some (.slice Ab1 z1.length nb1):=bC_ Kb_c.out 1
  have pb2' : uc.cell? ⟨gb,2,none⟩ = some (.slice Ab2 z2.length nb2):=bC_ Kb_c.out 2
  have pb3' : uc.cell? ⟨gb,3,none⟩ = some (.slice Ab3 z3.length nb3):=bC_ Kb_c.out 3
  have pb4' : uc.cell? ⟨gb,4,none⟩ = some (.slice Ab4 z4.length nb4):=bC_ Kb_c.out 4
  have pb5' : uc.cell? ⟨gb,5,none⟩ = some (.slice Ab5 z5.length nb5):=bC_ Kb_c.out 5
  have pb6' : uc.cell? ⟨gb,6,none⟩ = some (.slice Ab6 z6.length nb6):=bC_ Kb_c.out 6
  have pb7' : uc.cell? ⟨gb,7,none⟩ = some (.slice Ab7 z7.length nb7):=bC_ Kb_c.out 7
  have pb8' : uc.cell? ⟨gb,8,none⟩ = some (.slice Ab8 z8.length nb8):=bC_ Kb_c.out 8
  have pb9' : uc.cell? ⟨gb,9,none⟩ = some (.slice Ab9 z9.length nb9):=bC_ Kb_c.out 9
  have pb10' : uc.cell? ⟨gb,10,none⟩ = some (.slice Ab10 z10.length nb10):=bC_ Kb_c.out 10
  have pc0' : uc.cell? ⟨gc,0,none⟩ = some (.int .i64 z0):=bC_ Kc_c.out 0
  have pc1' : uc.cell? ⟨gc,1,none⟩ = some (.slice Ac1 z1.length nc1):=bC_ Kc_c.out 1
  have pc2' : uc.cell? ⟨gc,2,none⟩ = some (.slice Ac2 z2.length nc2):=bC_ Kc_c.out 2
  have pc3' : uc.cell? ⟨gc,3,none⟩ = some (.slice Ac3 z3.length nc3):=bC_ Kc_c.out 3
  have pc4' : uc.cell? ⟨gc,4,none⟩ = some (.slice Ac4 z4.length nc4):=bC_ Kc_c.out 4
  have pc5' : uc.cell? ⟨gc,5,none⟩ = some (.slice Ac5 z5.length nc5):=bC_ Kc_c.out 5
  have pc6' : uc.cell? ⟨gc,6,none⟩ = some (.slice Ac6 z6.length nc6):=bC_ Kc_c.out 6
  have pc7' : uc.cell? ⟨gc,7,none⟩ = some (.slice Ac7 z7.length nc7):=bC_ Kc_c.out 7
  have pc8' : uc.cell? ⟨gc,8,none⟩ = some (.slice Ac8 z8.length nc8):=bC_ Kc_c.out 8
  have pc9' : uc.cell? ⟨gc,9,none⟩ = some (.slice Ac9 z9.length nc9):=bC_ Kc_c.out 9
  have pc10' : uc.cell? ⟨gc,10,none⟩ = some (.slice Ac10 z10.length nc10):=bC_ Kc_c.out 10
  clear HEa HEb HEc HNE
  go_wp2_with (first|(go_at_call 16;refine (same_calls HCb.out HCc.out (bigB_short HOK.out.1) (fun r hr => by have:=HOK.out.2 r hr;omega)).mono ?_;rintro e w8 ⟨rfl,hb⟩;have HB8:=A0_.mk (HBc.out.trans (hb.mono HBc.out.size));clear hb))
  go_ret
  exact ⟨by simp,HB8.out⟩
 ·have bb : (a2 == 0 && e2 == 0) = false:=by
   by_cases h2 : a2 = 0
   ·have h3 : ¬ e2 = 0:=fun h3 => h1 ⟨h2,h3⟩
    rw [beq_eq_false_iff_ne.2 h3,Bool.and_false]
   ·rw [beq_eq_false_iff_ne.2 h2,Bool.false_and]
  clear h1 HEa HEb HEc HNE
  by_cases h3 : (a2 == a1 && e2 == e1) = true
  ·go_wp2
   go_ret
   exact ⟨by simp,HBc.out⟩
  ·have h3' : (a2 == a1 && e2 == e1) = false:=by simpa using h3
   clear h3
   go_wp2
   go_ret
   exact ⟨by simp,HBc.out⟩
theorem other_calls {w : World} {s : ByteArray} (hG : GV w) (hs : s.size ≤ 140737488355328) :
  Calls Tryz.prog 6 #[.string s] w fun e w' => e = .returned (.bool true) ∧ Below w.heap.size w w':=by
 have h:=other_law s
 obtain ⟨⟨y,a1,e1⟩,hA⟩ : ∃ r,readB s = r:=⟨_,rfl⟩
 obtain ⟨⟨z,a2,e2⟩,hF⟩ : ∃ r,readF s = r:=⟨_,rfl⟩
 rw [hA,hF] at h
 rcases h with ⟨h1,h2⟩|⟨h1,h2⟩
 ·exact other_bin hG hs hA hF h1 h2
 ·exact other_asc hG hs hA hF h1 h2
end Go.Proofs.YtdmngdohlobogaaGreatDoor.Asc

