import Derived.Test.YtdmngdohlobogaaGreatDoorYBRightP
namespace Go.Proofs.YtdmngdohlobogaaGreatDoor.Asc
open Go Go.RowKit Go.Proofs.YtdmngdohlobogaaGreatDoorW.PrintWords Go.Proofs.YtdmngdohlobogaaGreatDoorW.PrintLast Go.Proofs.YtdmngdohlobogaaGreatDoorW.PrintMore
set_option linter.unusedVariables false
set_option linter.unusedSimpArgs false
attribute [local go_sem high] eqA40
theorem readB_text {s : ByteArray} {x : S65} {a : Int} (h : readB s = (x,a,0)) (hs : s.size ≤ 140737488355328) : ∀ t ∈ x.f10,t.size ≤ 1099511627776:=by
 have key : ∀ t ∈ x.f10,t.size ≤ 262144:=by
  unfold readB at h
  split at h
  ·rename_i h1
   injection h with _ h
   injection h with _ h
   exact absurd h h1
  ·rename_i hd0
   obtain ⟨word,ms,en,cd,hh⟩ : ∃ a b c d,headF s = (a,b,c,d):=⟨_,_,_,_,rfl⟩
   rw [hh] at hd0 h
   dsimp only at hd0 h
   obtain rfl : cd = 0:=Decidable.not_not.1 hd0
   have hk:=head_ok hh
   split at h
   ·injection h with _ h
    injection h with _ h
    exact absurd h (by decide)
   ·split at h
    ·injection h with _ h
     injection h with _ h
     exact absurd h (by decide)
    ·unfold readGatesB at h
     split at h
     ·injection h with _ h
      injection h with _ h
      exact absurd h (by decide)
     ·split at h
      ·injection h with _ h
       injection h with _ h
       exact absurd h (by decide)
      ·rename_i l r hg
       obtain ⟨hx,h0⟩:=readEnd_ok h
       subst hx
       exact tailF_size s r hk.size
 exact fun t ht => Nat.le_trans (key t ht) (by decide)
set_option maxHeartbeats 4000000 in
set_option maxRecDepth 100000 in
theorem isbin_calls {c : S65} {a : CA} {w : World} (hBin : Bin c) (hL0 : (lookF c).2 = 0) (hC : CR w c a) (hK : Caps c a) (hj : ∀ r ∈ c.f6,r.length ≤ 16384) (hs10 : ∀ s ∈ c.f10,s.size ≤ 1099511627776) :
  Calls Tryz.prog 14 #[.agg (cellsC c a)] w fun e w' => e = .returned (.tuple #[.bool true,.int .i64 0]) ∧ Below w.heap.size w w':=by
 have hu65:=Tryz.underlying29
 have HSH:=A0_.mk (look_short hL0)
 have HBIN:=A0_.mk hBin
 have HL0:=A0_.mk hL0
 have HC:=A0_.mk hC
 have HK:=A0_.mk hK
 have HJL:=A0_.mk hj
 have HS10:=A0_.mk hs10
 clear hBin hL0 hC hK hj hs10
 obtain ⟨A1,A2,A3,A4,A5,A6,A7,A8,A9,A10,c1,c2,c3,c4,c5,c6,c7,c8,c9,c10⟩:=a
 unfold cellsC
 go_enter Tryz.func14,Tryz.ntmps14
 go_upto_region 1 with (fail)
 have hX : BX (w.alloc (.cells #[.int .i64 c.f0,.slice A1 c.f1.length c1,.slice A2 c.f2.length c2,.slice A3 c.f3.length c3,.slice A4 c.f4.length c4,.slice A5 c.f5.length c5,.slice A6 c.f6.length c6,.slice A7 c.f7.length c7,.slice A8 c.f8.length c8,.slice A9 c.f9.length c9,.slice A10 c.f10.length c10] 29)) w.heap.size c ⟨A1,A2,A3,A4,A5,A6,A7,A8,A9,A10,c1,c2,c3,c4,c5,c6,c7,c8,c9,c10⟩:=blk_new w _
 have hB : Below w.heap.size w (w.alloc (.cells #[.int .i64 c.f0,.slice A1 c.f1.length c1,.slice A2 c.f2.length c2,.slice A3 c.f3.length c3,.slice A4 c.f4.length c4,.slice A5 c.f5.length c5,.slice A6 c.f6.length c6,.slice A7 c.f7.length c7,.slice A8 c.f8.length c8,.slice A9 c.f9.length c9,.slice A10 c.f10.length c10] 29)):=eA_ (Below.refl _ _) _
 have HB:=A0_.mk hB
 have hRC:=renum_calls HBIN.out HL0.out (HC.out.below hB) HK.out HJL.out HS10.out
 dsimp only [cellsC] at hRC
 have RC:=A0_.mk hRC
 clear hB hRC
 obtain ⟨q,hq⟩ : ∃ q,w.heap.size = q:=⟨_,rfl⟩
 have HQ : A0_ (w.heap.size = q):=⟨hq⟩
 have hX2 : BX (w.alloc (.cells #[.int .i64 c.f0,.slice A1 c.f1.length c1,.slice A2 c.f2.length c2,.slice A3 c.f3.length c3,.slice A4 c.f4.length c4,.slice A5 c.f5.length c5,.slice A6 c.f6.length c6,.slice A7 c.f7.length c7,.slice A8 c.f8.length c8,.slice A9 c.f9.length c9,.slice A10 c.f10.length c10] 29)) q c ⟨A1,A2,A3,A4,A5,A6,A7,A8,A9,A10,c1,c2,c3,c4,c5,c6,c7,c8,c9,c10⟩:=hq ▸ hX
 have HX:=A0_.mk hX2
 clear hX hX2
 rw [hq]
 clear hq
 generalize w.alloc (.cells #[.int .i64 c.f0,.slice A1 c.f1.length c1,.slice A2 c.f2.length c2,.slice A3 c.f3.length c3,.slice A4 c.f4.length c4,.slice A5 c.f5.length c5,.slice A6 c.f6.length c6,.slice A7 c.f7.length c7,.slice A8 c.f8.length c8,.slice A9 c.f9.length c9,.slice A10 c.f10.length c10] 29) = W at HB RC HX ⊢
 have y0 : W.cell? ⟨q,0,none⟩ = some (.int .i64 c.f0):=(BX.cell HX.out 0).trans rfl
 have y1 : W.cell? ⟨q,1,none⟩ = some (.slice A1 c.f1.length c1):=(BX.cell HX.out 1).trans rfl
 have y2 : W.cell? ⟨q,2,none⟩ = some (.slice A2 c.f2.length c2):=(BX.cell HX.out 2).trans rfl
 have y3 : W.cell? ⟨q,3,none⟩ = some (.slice A3 c.f3.length c3):=(BX.cell HX.out 3).trans rfl
 have y4 : W.cell? ⟨q,4,none⟩ = some (.slice A4 c.f4.length c4):=(BX.cell HX.out 4).trans rfl
 have y5 : W.cell? ⟨q,5,none⟩ = some (.slice A5 c.f5.length c5):=(BX.cell HX.out 5).trans rfl
 have y6 : W.cell? ⟨q,6,none⟩ = some (.slice A6 c.f6.length c6):=(BX.cell HX.out 6).trans rfl
 have y7 : W.cell? ⟨q,7,none⟩ = some (.slice A7 c.f7.length c7):=(BX.cell HX.out 7).trans rfl
 have y8 : W.cell? ⟨q,8,none⟩ = some (.slice A8 c.f8.length c8):=(BX.cell HX.out 8).trans rfl
 have y9 : W.cell? ⟨q,9,none⟩ = some (.slice A9 c.f9.length c9):=(BX.cell HX.out 9).trans rfl
 have y10 : W.cell? ⟨q,10,none⟩ = some (.slice A10 c.f10.length c10):=(BX.cell HX.out 10).trans rfl
 go_upto_region 2 with ((with_reducible refine gate_callee (f:=15) rfl ?_);refine goesL_ (some 9) rfl rfl Tryz.func15 (by kernel_rfl) rfl #[.agg #[.int .i64 c.f0,.slice A1 c.f1.length c1,.slice A2 c.f2.length c2,.slice A3 c.f3.length c3,.slice A4 c.f4.length c4,.slice A5 c.f5.length c5,.slice A6 c.f6.length c6,.slice A7 c.f7.length c7,.slice A8 c.f8.length c8,.slice A9 c.f9.length c9,.slice A10 c.f10.length c10]] rfl (by (try simp only [List.map_toArray,List.map_cons,List.map_nil]);first|done|rfl) ?_;(with_reducible refine (RC.out).mono ?_);rintro e w2 ⟨a2,u,rfl,hcr,hb⟩;obtain ⟨B1,B2,B3,B4,B5,B6,B7,B8,B9,B10,d1,d2,d3,d4,d5,d6,d7,d8,d9,d10⟩:=a2;(try dsimp only);refine ⟨_,rfl,?_⟩;have HCR:=A0_.mk hcr;have HB2:=A0_.mk hb;clear hcr hb RC)
 clear y0 y1 y2 y3 y4 y5 y6 y7 y8 y9 y10
 have hba : Below w2.heap.size w2 (w2.alloc (.cells #[.int .i64 c.f0,.slice B1 c.f1.length d1,.slice B2 c.f2.length d2,.slice B3 c.f3.length d3,.slice B4 c.f4.length d4,.slice B5 c.f5.length d5,.slice B6 c.f6.length d6,.slice B7 c.f7.length d7,.slice B8 c.f8.length d8,.slice B9 c.f9.length d9,.slice B10 c.f10.length d10] 29)):=eA_ (Below.refl _ _) _
 have hx4 : BX (w2.alloc (.cells #[.int .i64 c.f0,.slice B1 c.f1.length d1,.slice B2 c.f2.length d2,.slice B3 c.f3.length d3,.slice B4 c.f4.length d4,.slice B5 c.f5.length d5,.slice B6 c.f6.length d6,.slice B7 c.f7.length d7,.slice B8 c.f8.length d8,.slice B9 c.f9.length d9,.slice B10 c.f10.length d10] 29)) w2.heap.size c ⟨B1,B2,B3,B4,B5,B6,B7,B8,B9,B10,d1,d2,d3,d4,d5,d6,d7,d8,d9,d10⟩:=blk_new w2 _
 have HX1:=A0_.mk ((HX.out.below HB2.out).below hba)
 have HCR2:=A0_.mk (HCR.out.below hba)
 have HB3:=A0_.mk ((HB.out.trans (lower_ HB.out.size HB2.out)).trans (lower_ (HB.out.trans (lower_ HB.out.size HB2.out)).size hba))
 clear hba HB HB2 HCR HX
 obtain ⟨b4,hb4⟩ : ∃ b,w2.heap.size = b:=⟨_,rfl⟩
 rw [hb4] at hx4 ⊢
 clear hb4
 have HX4:=A0_.mk hx4
 clear hx4
 generalize w2.alloc (.cells #[.int .i64 c.f0,.slice B1 c.f1.length d1,.slice B2 c.f2.length d2,.slice B3 c.f3.length d3,.slice B4 c.f4.length d4,.slice B5 c.f5.length d5,.slice B6 c.f6.length d6,.slice B7 c.f7.length d7,.slice B8 c.f8.length d8,.slice B9 c.f9.length d9,.slice B10 c.f10.length d10] 29) = W3 at HX1 HCR2 HB3 HX4 ⊢
 have z0 : W3.cell? ⟨b4,0,none⟩ = some (.int .i64 c.f0):=(BX.cell HX4.out 0).trans rfl
 have z1 : W3.cell? ⟨b4,1,none⟩ = some (.slice B1 c.f1.length d1):=(BX.cell HX4.out 1).trans rfl
 have z2 : W3.cell? ⟨b4,2,none⟩ = some (.slice B2 c.f2.length d2):=(BX.cell HX4.out 2).trans rfl
 have z3 : W3.cell? ⟨b4,3,none⟩ = some (.slice B3 c.f3.length d3):=(BX.cell HX4.out 3).trans rfl
 have z4 : W3.cell? ⟨b4,4,none⟩ = some (.slice B4 c.f4.length d4):=(BX.cell HX4.out 4).trans rfl
 have z5 : W3.cell? ⟨b4,5,none⟩ = some (.slice B5 c.f5.length d5):=(BX.cell HX4.out 5).trans rfl
 have z6 : W3.cell? ⟨b4,6,none⟩ = some (.slice B6 c.f6.length d6):=(BX.cell HX4.out 6).trans rfl
 have z7 : W3.cell? ⟨b4,7,none⟩ = some (.slice B7 c.f7.length d7):=(BX.cell HX4.out 7).trans rfl
 have z8 : W3.cell? ⟨b4,8,none⟩ = some (.slice B8 c.f8.length d8):=(BX.cell HX4.out 8).trans rfl
 have z9 : W3.cell? ⟨b4,9,none⟩ = some (.slice B9 c.f9.length d9):=(BX.cell HX4.out 9).trans rfl
 have z10 : W3.cell? ⟨b4,10,none⟩ = some (.slice B10 c.f10.length d10):=(BX.cell HX4.out 10).trans rfl
 have y0 : W3.cell? ⟨q,0,none⟩ = some (.int .i64 c.f0):=(BX.cell HX1.out 0).trans rfl
 have y1 : W3.cell? ⟨q,1,none⟩ = some (.slice A1 c.f1.length c1):=(BX.cell HX1.out 1).trans rfl
 have y2 : W3.cell? ⟨q,2,none⟩ = some (.slice A2 c.f2.length c2):=(BX.cell HX1.out 2).trans rfl
 have y3 : W3.cell? ⟨q,3,none⟩ = some (.slice A3 c.f3.length c3):=(BX.cell HX1.out 3).trans rfl
 have y4 : W3.cell? ⟨q,4,none⟩ = some (.slice A4 c.f4.length c4):=(BX.cell HX1.out 4).trans rfl
 have y5 : W3.cell? ⟨q,5,none⟩ = some (.slice A5 c.f5.length c5):=(BX.cell HX1.out 5).trans rfl
 have y6 : W3.cell? ⟨q,6,none⟩ = some (.slice A6 c.f6.length c6):=(BX.cell HX1.out 6).trans rfl
 have y7 : W3.cell? ⟨q,7,none⟩ = some (.slice A7 c.f7.length c7):=(BX.cell HX1.out 7).trans rfl
 have y8 : W3.cell? ⟨q,8,none⟩ = some (.slice A8 c.f8.length c8):=(BX.cell HX1.out 8).trans rfl
 have y9 : W3.cell? ⟨q,9,none⟩ = some (.slice A9 c.f9.length c9):=(BX.cell HX1.out 9).trans rfl
 have y10 : W3.cell? ⟨q,10,none⟩ = some (.slice A10 c.f10.length c10):=(BX.cell HX1.out 10).trans rfl
 have SC:=A0_.mk (same_calls (y0:=c.f0) (y1:=c.f1) (y2:=c.f2) (y3:=c.f3) (y4:=c.f4) (y5:=c.f5) (y6:=c.f6) (y7:=c.f7) (y8:=c.f8) (y9:=c.f9) (y10:=c.f10) HCR2.out (HC.out.below HB3.out) (bigB_short HSH.out) (fun r hr => Nat.le_trans (HJL.out r hr) (by decide)))
 go_wp2_with (first|((with_reducible refine gate_callee (f:=16) rfl ?_);refine goesL_ (some 18) rfl rfl Tryz.func16 (by kernel_rfl) rfl #[.agg #[.int .i64 c.f0,.slice B1 c.f1.length d1,.slice B2 c.f2.length d2,.slice B3 c.f3.length d3,.slice B4 c.f4.length d4,.slice B5 c.f5.length d5,.slice B6 c.f6.length d6,.slice B7 c.f7.length d7,.slice B8 c.f8.length d8,.slice B9 c.f9.length d9,.slice B10 c.f10.length d10],.agg #[.int .i64 c.f0,.slice A1 c.f1.length c1,.slice A2 c.f2.length c2,.slice A3 c.f3.length c3,.slice A4 c.f4.length c4,.slice A5 c.f5.length c5,.slice A6 c.f6.length c6,.slice A7 c.f7.length c7,.slice A8 c.f8.length c8,.slice A9 c.f9.length c9,.slice A10 c.f10.length c10]] rfl (by (try simp only [List.map_toArray,List.map_cons,List.map_nil]);first|done|rfl) ?_;(with_reducible refine (SC.out).mono ?_);rintro e w5 ⟨rfl,hb5⟩;refine ⟨_,rfl,?_⟩;have HB5:=A0_.mk (HB3.out.trans (lower_ HB3.out.size hb5));clear hb5 SC)|go_in)
 repeat (go_quiet (fail);try go_wp2)
 show bodyPost _ _ _ _ _ _
 refine bodyPost_ret (results_tmp2 rfl _ _ _) rfl ?_
 exact ⟨rfl,HQ.out ▸ HB5.out⟩
set_option maxHeartbeats 4000000 in
set_option maxRecDepth 100000 in
theorem rightB_bad {w : World} {s : ByteArray} {x : S65} {fa fc : Int} (hG : GV w) (hs : s.size ≤ 140737488355328) (hr : readB s = (x,fa,fc)) (h0 : fc ≠ 0) (h1 : 0 ≤ fa) (h2 : fa ≤ s.size) (h3 : x.f8 = []) (h4 : x.f0 = 0) :
  Calls Tryz.prog 5 #[.string s] w fun e w' => e = .returned (.bool true) ∧ Below w.heap.size w w':=by
 obtain ⟨y0,y1,y2,y3,y4,y5,y6,y7,y8,y9,y10⟩:=x
 dsimp only at h3 h4
 subst h3
 subst h4
 have HG:=A0_.mk hG
 have HS:=A0_.mk hs
 have HRF:=A0_.mk hr
 have b1 : (fc == 0) = false:=by simpa using h0
 have b2 : decide (0 ≤ fa) = true:=decide_eq_true h1
 have b3 : decide (fa ≤ (s.size : Int)) = true:=decide_eq_true h2
 clear hG hs hr
 go_enter Tryz.func5,Tryz.ntmps5
 go_upto_region 4 with (first|(go_at_call 11;refine (worksB_calls HG.out).mono ?_;rintro e w1 ⟨rfl,hb1⟩;have HB1:=A0_.mk hb1;clear hb1)|(go_at_call 7;refine (readB_calls (GV_below HG.out HB1.out) HS.out).mono ?_;rw [HRF.out];rintro e w2 ⟨v,rfl,hrows,hb⟩;obtain ⟨v1,v2,v3,v4,v5,v6,v7,v8,v9,v10⟩:=v;obtain ⟨A1,n1,rfl⟩:=Kd.R_slice (CRows.r1 hrows);obtain ⟨A2,n2,rfl⟩:=Kd.R_slice (CRows.r2 hrows);obtain ⟨A3,n3,rfl⟩:=Kd.R_slice (CRows.r3 hrows);obtain ⟨A4,n4,rfl⟩:=Kd.R_slice (CRows.r4 hrows);obtain ⟨A5,n5,rfl⟩:=Kd.R_slice (CRows.r5 hrows);obtain ⟨A6,n6,rfl⟩:=Kd.R_slice (CRows.r6 hrows);obtain ⟨A7,n7,rfl⟩:=Kd.R_slice (CRows.r7 hrows);obtain ⟨A8,n8,rfl⟩:=Kd.R_slice (CRows.r8 hrows);obtain ⟨A9,n9,rfl⟩:=Kd.R_slice (CRows.r9 hrows);obtain ⟨A10,n10,rfl⟩:=Kd.R_slice (CRows.r10 hrows);have HB2:=A0_.mk (HB1.out.trans (hb.mono HB1.out.size));dsimp only [cellsV,List.length_nil];clear hrows hb))
 have hc:=bA_ (blk_new w2 (.cells #[.int .i64 0,.slice A1 y1.length n1,.slice A2 y2.length n2,.slice A3 y3.length n3,.slice A4 y4.length n4,.slice A5 y5.length n5,.slice A6 y6.length n6,.slice A7 y7.length n7,.slice A8 0 n8,.slice A9 y9.length n9,.slice A10 y10.length n10] 29)) (.cells #[.int .i64 fa,.int .i64 fc] 32)
 have hf:=blk_new (w2.alloc (.cells #[.int .i64 0,.slice A1 y1.length n1,.slice A2 y2.length n2,.slice A3 y3.length n3,.slice A4 y4.length n4,.slice A5 y5.length n5,.slice A6 y6.length n6,.slice A7 y7.length n7,.slice A8 0 n8,.slice A9 y9.length n9,.slice A10 y10.length n10] 29)) (.cells #[.int .i64 fa,.int .i64 fc] 32)
 simp only [World.size_alloc] at hf
 have hbe : Below w2.heap.size w2 ((w2.alloc (.cells #[.int .i64 0,.slice A1 y1.length n1,.slice A2 y2.length n2,.slice A3 y3.length n3,.slice A4 y4.length n4,.slice A5 y5.length n5,.slice A6 y6.length n6,.slice A7 y7.length n7,.slice A8 0 n8,.slice A9 y9.length n9,.slice A10 y10.length n10] 29)).alloc (.cells #[.int .i64 fa,.int .i64 fc] 32)):=eA_ (eA_ (Below.refl _ _) _) _
 have HB3:=A0_.mk (HB2.out.trans (hbe.mono HB2.out.size))
 clear hbe
 generalize (w2.alloc (.cells #[.int .i64 0,.slice A1 y1.length n1,.slice A2 y2.length n2,.slice A3 y3.length n3,.slice A4 y4.length n4,.slice A5 y5.length n5,.slice A6 y6.length n6,.slice A7 y7.length n7,.slice A8 0 n8,.slice A9 y9.length n9,.slice A10 y10.length n10] 29)).alloc (.cells #[.int .i64 fa,.int .i64 fc] 32) = w3 at hc hf HB3 ⊢
 generalize w2.heap.size = g at hc hf ⊢
 have c0 : w3.cell? ⟨g,0,none⟩ = some (.int .i64 0):=bC_ hc 0
 have c8 : w3.cell? ⟨g,8,none⟩ = some (.slice A8 0 n8):=bC_ hc 8
 have f0 : w3.cell? ⟨g + 1,0,none⟩ = some (.int .i64 fa):=bC_ hf 0
 have f1 : w3.cell? ⟨g + 1,1,none⟩ = some (.int .i64 fc):=bC_ hf 1
 clear hc hf
 go_wp2
 go_ret
 exact ⟨by simp [h0],HB3.out⟩
set_option maxHeartbeats 4000000 in
set_option maxRecDepth 100000 in
theorem rightB_ok {w : World} {s : ByteArray} {c : S65} (hG : GV w) (hs : s.size ≤ 140737488355328) (hr : readB s = (c,0,0)) :
  Calls Tryz.prog 5 #[.string s] w fun e w' => e = .returned (.bool true) ∧ Below w.heap.size w w':=by
 have hu65:=Tryz.underlying29
 have hOK:=readB_ok hr
 have hBI:=bin_of hr
 have HT10:=A0_.mk (readB_text hr hs)
 have HG:=A0_.mk hG
 have HS:=A0_.mk hs
 have HRF:=A0_.mk hr
 have HOK:=A0_.mk hOK
 have HBI:=A0_.mk hBI
 clear hG hs hr hOK hBI
 go_enter Tryz.func5,Tryz.ntmps5
 go_upto_region 4 with (first|(go_at_call 11;refine (worksB_calls HG.out).mono ?_;rintro e w1 ⟨rfl,hb1⟩;have HB1:=A0_.mk hb1;clear hb1)|(go_at_call 7;refine (readB_calls (GV_below HG.out HB1.out) HS.out).mono ?_;rw [HRF.out];rintro e w2 ⟨v,rfl,hrows,hb⟩;obtain ⟨v1,v2,v3,v4,v5,v6,v7,v8,v9,v10⟩:=v;obtain ⟨A1,c1,rfl⟩:=Kd.R_slice (CRows.r1 hrows);obtain ⟨A2,c2,rfl⟩:=Kd.R_slice (CRows.r2 hrows);obtain ⟨A3,c3,rfl⟩:=Kd.R_slice (CRows.r3 hrows);obtain ⟨A4,c4,rfl⟩:=Kd.R_slice (CRows.r4 hrows);obtain ⟨A5,c5,rfl⟩:=Kd.R_slice (CRows.r5 hrows);obtain ⟨A6,c6,rfl⟩:=Kd.R_slice (CRows.r6 hrows);obtain ⟨A7,c7,rfl⟩:=Kd.R_slice (CRows.r7 hrows);obtain ⟨A8,c8,rfl⟩:=Kd.R_slice (CRows.r8 hrows);obtain ⟨A9,c9,rfl⟩:=Kd.R_slice (CRows.r9 hrows);obtain ⟨A10,c10,rfl⟩:=Kd.R_slice (CRows.r10 hrows);have HB2:=A0_.mk (HB1.out.trans (hb.mono HB1.out.size));have HR0:=A0_.mk hrows;dsimp only [cellsV];clear hrows hb))
 have hc : BX ((w2.alloc (.cells #[.int .i64 c.f0,.slice A1 c.f1.length c1,.slice A2 c.f2.length c2,.slice A3 c.f3.length c3,.slice A4 c.f4.length c4,.slice A5 c.f5.length c5,.slice A6 c.f6.length c6,.slice A7 c.f7.length c7,.slice A8 c.f8.length c8,.slice A9 c.f9.length c9,.slice A10 c.f10.length c10] 29)).alloc (.cells #[.int .i64 0,.int .i64 0] 32)) w2.heap.size c ⟨A1,A2,A3,A4,A5,A6,A7,A8,A9,A10,c1,c2,c3,c4,c5,c6,c7,c8,c9,c10⟩:=bA_ (blk_new w2 _) _
 have hf:=blk_new (w2.alloc (.cells #[.int .i64 c.f0,.slice A1 c.f1.length c1,.slice A2 c.f2.length c2,.slice A3 c.f3.length c3,.slice A4 c.f4.length c4,.slice A5 c.f5.length c5,.slice A6 c.f6.length c6,.slice A7 c.f7.length c7,.slice A8 c.f8.length c8,.slice A9 c.f9.length c9,.slice A10 c.f10.length c10] 29)) (.cells #[.int .i64 0,.int .i64 0] 32)
 simp only [World.size_alloc] at hf
 have hbe : Below w2.heap.size w2 ((w2.alloc (.cells #[.int .i64 c.f0,.slice A1 c.f1.length c1,.slice A2 c.f2.length c2,.slice A3 c.f3.length c3,.slice A4 c.f4.length c4,.slice A5 c.f5.length c5,.slice A6 c.f6.length c6,.slice A7 c.f7.length c7,.slice A8 c.f8.length c8,.slice A9 c.f9.length c9,.slice A10 c.f10.length c10] 29)).alloc (.cells #[.int .i64 0,.int .i64 0] 32)):=eA_ (eA_ (Below.refl _ _) _) _
 have HB3:=A0_.mk (HB2.out.trans (hbe.mono HB2.out.size))
 have hrows:=HR0.out.below hbe
 have hcr : CR ((w2.alloc (.cells #[.int .i64 c.f0,.slice A1 c.f1.length c1,.slice A2 c.f2.length c2,.slice A3 c.f3.length c3,.slice A4 c.f4.length c4,.slice A5 c.f5.length c5,.slice A6 c.f6.length c6,.slice A7 c.f7.length c7,.slice A8 c.f8.length c8,.slice A9 c.f9.length c9,.slice A10 c.f10.length c10] 29)).alloc (.cells #[.int .i64 0,.int .i64 0] 32)) c ⟨A1,A2,A3,A4,A5,A6,A7,A8,A9,A10,c1,c2,c3,c4,c5,c6,c7,c8,c9,c10⟩:=⟨(Kd.R_reads' hrows.r1).2.2,(Kd.R_reads' hrows.r2).2.2,(Kd.R_reads' hrows.r3).2.2,(Kd.R_reads' hrows.r4).2.2,(Kd.R_reads' hrows.r5).2.2,(Kd.R_reads' hrows.r6).2.2,(Kd.R_reads' hrows.r7).2.2,(Kd.R_reads' hrows.r8).2.2,(Kd.R_reads' hrows.r9).2.2,(Kd.R_reads' hrows.r10).2.2⟩
 have hk : Caps c ⟨A1,A2,A3,A4,A5,A6,A7,A8,A9,A10,c1,c2,c3,c4,c5,c6,c7,c8,c9,c10⟩:=⟨(Kd.R_reads' hrows.r1).2.1,(Kd.R_reads' hrows.r2).2.1,(Kd.R_reads' hrows.r3).2.1,(Kd.R_reads' hrows.r4).2.1,(Kd.R_reads' hrows.r5).2.1,(Kd.R_reads' hrows.r6).2.1,(Kd.R_reads' hrows.r7).2.1,(Kd.R_reads' hrows.r8).2.1,(Kd.R_reads' hrows.r9).2.1,(Kd.R_reads' hrows.r10).2.1⟩
 have HCR:=A0_.mk hcr
 have HCK:=A0_.mk hk
 clear hbe hrows hcr hk HR0 HB1 HB2
 obtain ⟨g,hg⟩ : ∃ b,w2.heap.size = b:=⟨_,rfl⟩
 rw [hg] at hc hf ⊢
 clear hg
 have HX:=A0_.mk hc
 have HF:=A0_.mk hf
 clear hc hf
 generalize (w2.alloc (.cells #[.int .i64 c.f0,.slice A1 c.f1.length c1,.slice A2 c.f2.length c2,.slice A3 c.f3.length c3,.slice A4 c.f4.length c4,.slice A5 c.f5.length c5,.slice A6 c.f6.length c6,.slice A7 c.f7.length c7,.slice A8 c.f8.length c8,.slice A9 c.f9.length c9,.slice A10 c.f10.length c10] 29)).alloc (.cells #[.int .i64 0,.int .i64 0] 32) = W3 at HX HF HCR HB3 ⊢
 have f0 : W3.cell? ⟨g + 1,0,none⟩ = some (.int .i64 0):=bC_ HF.out 0
 have f1 : W3.cell? ⟨g + 1,1,none⟩ = some (.int .i64 0):=bC_ HF.out 1
 go_upto_region 6 with (fail)
 clear f0 f1 HF
 have y0 : W3.cell? ⟨g,0,none⟩ = some (.int .i64 c.f0):=(BX.cell HX.out 0).trans rfl
 have y1 : W3.cell? ⟨g,1,none⟩ = some (.slice A1 c.f1.length c1):=(BX.cell HX.out 1).trans rfl
 have y2 : W3.cell? ⟨g,2,none⟩ = some (.slice A2 c.f2.length c2):=(BX.cell HX.out 2).trans rfl
 have y3 : W3.cell? ⟨g,3,none⟩ = some (.slice A3 c.f3.length c3):=(BX.cell HX.out 3).trans rfl
 have y4 : W3.cell? ⟨g,4,none⟩ = some (.slice A4 c.f4.length c4):=(BX.cell HX.out 4).trans rfl
 have y5 : W3.cell? ⟨g,5,none⟩ = some (.slice A5 c.f5.length c5):=(BX.cell HX.out 5).trans rfl
 have y6 : W3.cell? ⟨g,6,none⟩ = some (.slice A6 c.f6.length c6):=(BX.cell HX.out 6).trans rfl
 have y7 : W3.cell? ⟨g,7,none⟩ = some (.slice A7 c.f7.length c7):=(BX.cell HX.out 7).trans rfl
 have y8 : W3.cell? ⟨g,8,none⟩ = some (.slice A8 c.f8.length c8):=(BX.cell HX.out 8).trans rfl
 have y9 : W3.cell? ⟨g,9,none⟩ = some (.slice A9 c.f9.length c9):=(BX.cell HX.out 9).trans rfl
 have y10 : W3.cell? ⟨g,10,none⟩ = some (.slice A10 c.f10.length c10):=(BX.cell HX.out 10).trans rfl
 have hic:=isbin_calls HBI.out.1 HBI.out.2 HCR.out HCK.out HOK.out.2 HT10.out
 dsimp only [cellsC] at hic
 have IC:=A0_.mk hic
 clear hic
 go_upto_region 7 with ((with_reducible refine gate_callee (f:=14) rfl ?_);refine goesL_ (some 48) rfl rfl Tryz.func14 (by kernel_rfl) rfl #[.agg #[.int .i64 c.f0,.slice A1 c.f1.length c1,.slice A2 c.f2.length c2,.slice A3 c.f3.length c3,.slice A4 c.f4.length c4,.slice A5 c.f5.length c5,.slice A6 c.f6.length c6,.slice A7 c.f7.length c7,.slice A8 c.f8.length c8,.slice A9 c.f9.length c9,.slice A10 c.f10.length c10]] rfl (by (try simp only [List.map_toArray,List.map_cons,List.map_nil]);first|done|rfl) ?_;(with_reducible refine (IC.out).mono ?_);rintro e W4 ⟨rfl,hb⟩;refine ⟨_,rfl,?_⟩;have HB4:=A0_.mk hb;clear hb IC)
 clear y0 y1 y2 y3 y4 y5 y6 y7 y8 y9 y10
 have HX4:=A0_.mk (HX.out.below HB4.out)
 have HCR4:=A0_.mk (HCR.out.below HB4.out)
 have HB5:=A0_.mk (HB3.out.trans (lower_ HB3.out.size HB4.out))
 clear HX HCR HB3 HB4
 have y0 : W4.cell? ⟨g,0,none⟩ = some (.int .i64 c.f0):=(BX.cell HX4.out 0).trans rfl
 have y1 : W4.cell? ⟨g,1,none⟩ = some (.slice A1 c.f1.length c1):=(BX.cell HX4.out 1).trans rfl
 have y2 : W4.cell? ⟨g,2,none⟩ = some (.slice A2 c.f2.length c2):=(BX.cell HX4.out 2).trans rfl
 have y3 : W4.cell? ⟨g,3,none⟩ = some (.slice A3 c.f3.length c3):=(BX.cell HX4.out 3).trans rfl
 have y4 : W4.cell? ⟨g,4,none⟩ = some (.slice A4 c.f4.length c4):=(BX.cell HX4.out 4).trans rfl
 have y5 : W4.cell? ⟨g,5,none⟩ = some (.slice A5 c.f5.length c5):=(BX.cell HX4.out 5).trans rfl
 have y6 : W4.cell? ⟨g,6,none⟩ = some (.slice A6 c.f6.length c6):=(BX.cell HX4.out 6).trans rfl
 have y7 : W4.cell? ⟨g,7,none⟩ = some (.slice A7 c.f7.length c7):=(BX.cell HX4.out 7).trans rfl
 have y8 : W4.cell? ⟨g,8,none⟩ = some (.slice A8 c.f8.length c8):=(BX.cell HX4.out 8).trans rfl
 have y9 : W4.cell? ⟨g,9,none⟩ = some (.slice A9 c.f9.length c9):=(BX.cell HX4.out 9).trans rfl
 have y10 : W4.cell? ⟨g,10,none⟩ = some (.slice A10 c.f10.length c10):=(BX.cell HX4.out 10).trans rfl
 have hrc:=renum_calls HBI.out.1 HBI.out.2 HCR4.out HCK.out HOK.out.2 HT10.out
 dsimp only [cellsC] at hrc
 have RC:=A0_.mk hrc
 clear hrc
 go_upto_region 8 with ((with_reducible refine gate_callee (f:=15) rfl ?_);refine goesL_ (some 53) rfl rfl Tryz.func15 (by kernel_rfl) rfl #[.agg #[.int .i64 c.f0,.slice A1 c.f1.length c1,.slice A2 c.f2.length c2,.slice A3 c.f3.length c3,.slice A4 c.f4.length c4,.slice A5 c.f5.length c5,.slice A6 c.f6.length c6,.slice A7 c.f7.length c7,.slice A8 c.f8.length c8,.slice A9 c.f9.length c9,.slice A10 c.f10.length c10]] rfl (by (try simp only [List.map_toArray,List.map_cons,List.map_nil]);first|done|rfl) ?_;(with_reducible refine (RC.out).mono ?_);rintro e W5 ⟨a2,u,rfl,hcr,hb⟩;obtain ⟨B1,B2,B3,B4,B5,B6,B7,B8,B9,B10,d1,d2,d3,d4,d5,d6,d7,d8,d9,d10⟩:=a2;(try dsimp only);refine ⟨_,rfl,?_⟩;have HCR5:=A0_.mk hcr;have HB6:=A0_.mk hb;clear hcr hb RC)
 clear y0 y1 y2 y3 y4 y5 y6 y7 y8 y9 y10
 have hba : Below W5.heap.size W5 (W5.alloc (.cells #[.int .i64 c.f0,.slice B1 c.f1.length d1,.slice B2 c.f2.length d2,.slice B3 c.f3.length d3,.slice B4 c.f4.length d4,.slice B5 c.f5.length d5,.slice B6 c.f6.length d6,.slice B7 c.f7.length d7,.slice B8 c.f8.length d8,.slice B9 c.f9.length d9,.slice B10 c.f10.length d10] 29)):=eA_ (Below.refl _ _) _
 have hx5 : BX (W5.alloc (.cells #[.int .i64 c.f0,.slice B1 c.f1.length d1,.slice B2 c.f2.length d2,.slice B3 c.f3.length d3,.slice B4 c.f4.length d4,.slice B5 c.f5.length d5,.slice B6 c.f6.length d6,.slice B7 c.f7.length d7,.slice B8 c.f8.length d8,.slice B9 c.f9.length d9,.slice B10 c.f10.length d10] 29)) W5.heap.size c ⟨B1,B2,B3,B4,B5,B6,B7,B8,B9,B10,d1,d2,d3,d4,d5,d6,d7,d8,d9,d10⟩:=blk_new W5 _
 have HX6:=A0_.mk ((HX4.out.below HB6.out).below hba)
 have HCR6:=A0_.mk ((HCR4.out.below HB6.out).below hba)
 have HCR7:=A0_.mk (HCR5.out.below hba)
 have HB7:=A0_.mk ((HB5.out.trans (lower_ HB5.out.size HB6.out)).trans (lower_ (HB5.out.trans (lower_ HB5.out.size HB6.out)).size hba))
 clear hba HX4 HCR4 HCR5 HB5 HB6
 obtain ⟨b7,hb7⟩ : ∃ b,W5.heap.size = b:=⟨_,rfl⟩
 rw [hb7] at hx5 ⊢
 clear hb7
 have HX7:=A0_.mk hx5
 clear hx5
 generalize W5.alloc (.cells #[.int .i64 c.f0,.slice B1 c.f1.length d1,.slice B2 c.f2.length d2,.slice B3 c.f3.length d3,.slice B4 c.f4.length d4,.slice B5 c.f5.length d5,.slice B6 c.f6.length d6,.slice B7 c.f7.length d7,.slice B8 c.f8.length d8,.slice B9 c.f9.length d9,.slice B10 c.f10.length d10] 29) = W6 at HX6 HX7 HCR6 HCR7 HB7 ⊢
 have y0 : W6.cell? ⟨g,0,none⟩ = some (.int .i64 c.f0):=(BX.cell HX6.out 0).trans rfl
 have y1 : W6.cell? ⟨g,1,none⟩ = some (.slice A1 c.f1.length c1):=(BX.cell HX6.out 1).trans rfl
 have y2 : W6.cell? ⟨g,2,none⟩ = some (.slice A2 c.f2.length c2):=(BX.cell HX6.out 2).trans rfl
 have y3 : W6.cell? ⟨g,3,none⟩ = some (.slice A3 c.f3.length c3):=(BX.cell HX6.out 3).trans rfl
 have y4 : W6.cell? ⟨g,4,none⟩ = some (.slice A4 c.f4.length c4):=(BX.cell HX6.out 4).trans rfl
 have y5 : W6.cell? ⟨g,5,none⟩ = some (.slice A5 c.f5.length c5):=(BX.cell HX6.out 5).trans rfl
 have y6 : W6.cell? ⟨g,6,none⟩ = some (.slice A6 c.f6.length c6):=(BX.cell HX6.out 6).trans rfl
 have y7 : W6.cell? ⟨g,7,none⟩ = some (.slice A7 c.f7.length c7):=(BX.cell HX6.out 7).trans rfl
 have y8 : W6.cell? ⟨g,8,none⟩ = some (.slice A8 c.f8.length c8):=(BX.cell HX6.out 8).trans rfl
 have y9 : W6.cell? ⟨g,9,none⟩ = some (.slice A9 c.f9.length c9):=(BX.cell HX6.out 9).trans rfl
 have y10 : W6.cell? ⟨g,10,none⟩ = some (.slice A10 c.f10.length c10):=(BX.cell HX6.out 10).trans rfl
 have z0 : W6.cell? ⟨b7,0,none⟩ = some (.int .i64 c.f0):=(BX.cell HX7.out 0).trans rfl
 have z1 : W6.cell? ⟨b7,1,none⟩ = some (.slice B1 c.f1.length d1):=(BX.cell HX7.out 1).trans rfl
 have z2 : W6.cell? ⟨b7,2,none⟩ = some (.slice B2 c.f2.length d2):=(BX.cell HX7.out 2).trans rfl
 have z3 : W6.cell? ⟨b7,3,none⟩ = some (.slice B3 c.f3.length d3):=(BX.cell HX7.out 3).trans rfl
 have z4 : W6.cell? ⟨b7,4,none⟩ = some (.slice B4 c.f4.length d4):=(BX.cell HX7.out 4).trans rfl
 have z5 : W6.cell? ⟨b7,5,none⟩ = some (.slice B5 c.f5.length d5):=(BX.cell HX7.out 5).trans rfl
 have z6 : W6.cell? ⟨b7,6,none⟩ = some (.slice B6 c.f6.length d6):=(BX.cell HX7.out 6).trans rfl
 have z7 : W6.cell? ⟨b7,7,none⟩ = some (.slice B7 c.f7.length d7):=(BX.cell HX7.out 7).trans rfl
 have z8 : W6.cell? ⟨b7,8,none⟩ = some (.slice B8 c.f8.length d8):=(BX.cell HX7.out 8).trans rfl
 have z9 : W6.cell? ⟨b7,9,none⟩ = some (.slice B9 c.f9.length d9):=(BX.cell HX7.out 9).trans rfl
 have z10 : W6.cell? ⟨b7,10,none⟩ = some (.slice B10 c.f10.length d10):=(BX.cell HX7.out 10).trans rfl
 have SC:=A0_.mk (same_calls (y0:=c.f0) (y1:=c.f1) (y2:=c.f2) (y3:=c.f3) (y4:=c.f4) (y5:=c.f5) (y6:=c.f6) (y7:=c.f7) (y8:=c.f8) (y9:=c.f9) (y10:=c.f10) HCR7.out HCR6.out (bigB_short HOK.out.1) (fun r hr => Nat.le_trans (HOK.out.2 r hr) (by decide)))
 go_wp2_with (first|(go_at_call 16;refine (SC.out).mono ?_;rintro e w5 ⟨rfl,hb5⟩;have HB8:=A0_.mk (HB7.out.trans (lower_ HB7.out.size hb5));clear hb5 SC)|go_in)
 repeat (go_quiet (fail);try go_wp2)
 go_ret
 exact ⟨by simp,HB8.out⟩
theorem rightB_calls {w : World} {s : ByteArray} (hG : GV w) (hs : s.size ≤ 140737488355328) :
  Calls Tryz.prog 5 #[.string s] w fun e w' => e = .returned (.bool true) ∧ Below w.heap.size w w':=by
 rcases bad_law s with h|⟨x,h⟩
 ·obtain ⟨x,fa,fc,hr⟩ : ∃ x fa fc,readB s = (x,fa,fc):=⟨_,_,_,rfl⟩
  rw [hr] at h
  obtain ⟨h1,h2,h3,h4⟩:=h
  dsimp only at h1 h2 h3 h4
  exact rightB_bad hG hs hr h2 h3 h4 (by rw [h1];rfl) (by rw [h1];rfl)
 ·exact rightB_ok hG hs h
end Go.Proofs.YtdmngdohlobogaaGreatDoor.Asc

