import Derived.Test.YtdmngdohlobogaaGreatDoorXBRead
section
namespace Go.Proofs.YtdmngdohlobogaaGreatDoor.Asc
open Go Go.RowKit Go.Proofs.YtdmngdohlobogaaGreatDoorW.PrintWords Go.Proofs.YtdmngdohlobogaaGreatDoorW.PrintLast Go.Proofs.YtdmngdohlobogaaGreatDoorW.PrintMore
set_option linter.unusedVariables false
set_option linter.unusedSimpArgs false
def eitherF (s : ByteArray) : S65 × Int × Int :=
 if (headF s).2.2.2 ≠ 0 then (x0S,0,(headF s).2.2.2) else if (headF s).1 = aigB then readB s else readF s
theorem either_results {w W : World} {x : S65} {v : VS} {fa fc : Int} {tm : Array Value} (h : RdS w W x v fa fc) (h2 : tm.getD 2 undef = .pointer (some ⟨w.heap.size,0,none⟩)) (h3 : tm.getD 3 undef = .pointer (some ⟨w.heap.size + 1,0,none⟩)) :
  bodyPost Tryz.prog Tryz.f12 (ReadEnd w (x,fa,fc)) .ret { tmps:=tm,defers:=[] } W :=
 bodyPost_ret (results_list (P:=Tryz.prog) (fn:=Tryz.f12) (tmps:=tm) (w:=W) (rs:=[.cell 2 29,.cell 3 32]) rfl (by simp) (.cell w.heap.size 29 _ (0,0) _ h2 h.C Tryz.underlying29 rfl info65s (.cell (w.heap.size + 1) 32 _ (0,0) _ h3 h.F Tryz.underlying32 rfl info32 .nil))) rfl ⟨v,rfl,h.rows,h.be⟩
set_option maxHeartbeats 4000000 in
set_option maxRecDepth 100000 in
theorem either_calls {w : World} {s : ByteArray} (hG : GV w) (hs : s.size ≤ 140737488355328) : Calls Tryz.prog 12 #[.string s] w (ReadEnd w (eitherF s)):=by
 obtain ⟨word,k,end_,code,hh⟩ : ∃ a b c d,headF s = (a,b,c,d):=⟨_,_,_,_,rfl⟩
 have hH : Calls Tryz.prog 18 #[.string s] ((w.alloc (.cells #[.int .i64 0,.slice none 0 0,.slice none 0 0,.slice none 0 0,.slice none 0 0,.slice none 0 0,.slice none 0 0,.slice none 0 0,.slice none 0 0,.slice none 0 0,.slice none 0 0] 29)).alloc (.cells #[.int .i64 0,.int .i64 0] 32)) (fun e w' => ∃ v1_ : Value,e = .returned (.tuple #[.string word,v1_,.int .i64 end_,.agg #[.int .i64 0,.int .i64 code]]) ∧ Kd.R (Kd.int .i64) 3 w' ((w.alloc (.cells #[.int .i64 0,.slice none 0 0,.slice none 0 0,.slice none 0 0,.slice none 0 0,.slice none 0 0,.slice none 0 0,.slice none 0 0,.slice none 0 0,.slice none 0 0,.slice none 0 0] 29)).alloc (.cells #[.int .i64 0,.int .i64 0] 32)).heap.size (fun _ => True) v1_ k ∧ Below ((w.alloc (.cells #[.int .i64 0,.slice none 0 0,.slice none 0 0,.slice none 0 0,.slice none 0 0,.slice none 0 0,.slice none 0 0,.slice none 0 0,.slice none 0 0,.slice none 0 0,.slice none 0 0] 29)).alloc (.cells #[.int .i64 0,.int .i64 0] 32)).heap.size ((w.alloc (.cells #[.int .i64 0,.slice none 0 0,.slice none 0 0,.slice none 0 0,.slice none 0 0,.slice none 0 0,.slice none 0 0,.slice none 0 0,.slice none 0 0,.slice none 0 0,.slice none 0 0] 29)).alloc (.cells #[.int .i64 0,.int .i64 0] 32)) w') :=
  ascii_Head.calls s word k end_ 0 code _ (GV_below hG (eA_ (eA_ (Below.refl _ _) _) _)) (by unfold ascii_Head.f;rw [if_pos hs,hh])
 have HH:=A0_.mk hH
 have HRS:=A0_.mk (RdS.begin w)
 have HG:=A0_.mk hG
 unfold eitherF
 rw [hh]
 dsimp only
 clear hH hG
 by_cases c0 : code = 0
 ·subst c0
  rw [if_neg (by decide)]
  by_cases ca : word = aigB
  ·subst ca
   rw [if_pos rfl]
   obtain ⟨c,fa,fc,hrb⟩ : ∃ a b d,readB s = (a,b,d):=⟨_,_,_,rfl⟩
   rw [hrb]
   have HRB:=A0_.mk hrb
   clear hrb
   unfold aigB at HH
   clear hh
   go_enter Tryz.func12,Tryz.ntmps12
   go_upto_region 2 with (first|(go_at_call 18;refine HH.out.mono ?_;rintro e w1 ⟨v1,rfl,hr,hb⟩;obtain ⟨A1,n1,rfl⟩:=Kd.R_slice hr;have HRS1:=A0_.mk (HRS.out.below hb);have HR1:=A0_.mk (Kd.R_lower hr HRS.out.be.size);clear hr hb))
   have HLT1:=A0_.mk (blk_lt HRS1.out.F)
   have hbe:=eA_ (Below.refl w1.heap.size w1) (.cells #[.int .i64 0,.int .i64 0] 32)
   have h2:=HRS1.out.below hbe
   have hnr:=Kd.R_below HR1.out hbe
   have hL0:=blk_new w1 (.cells #[.int .i64 0,.int .i64 0] 32)
   clear hbe HRS1 HR1
   generalize w1.alloc (.cells #[.int .i64 0,.int .i64 0] 32) = W2 at h2 hnr hL0 ⊢
   generalize w1.heap.size = gT at HLT1 hL0 ⊢
   have hlt:=HLT1.out
   have f0 : W2.cell? ⟨gT,0,none⟩ = some (.int .i64 0):=bC_ hL0 0
   have f1 : W2.cell? ⟨gT,1,none⟩ = some (.int .i64 0):=bC_ hL0 1
   go_upto_region 5 with (fail)
   clear f0 f1
   have hCA:=readB_calls (GV_below HG.out h2.be) hs
   rw [HRB.out] at hCA
   have HCA:=A0_.mk hCA
   have H2:=A0_.mk h2
   clear hCA hs h2 hnr hL0
   go_wp2_with (first|(go_at_call 7;refine HCA.out.mono ?_;rintro e w9 ⟨v,rfl,hrows,hb⟩;obtain ⟨v1,v2,v3,v4,v5,v6,v7,v8,v9,v10⟩:=v;obtain ⟨A1,n1,rfl⟩:=Kd.R_slice (CRows.r1 hrows);obtain ⟨A2,n2,rfl⟩:=Kd.R_slice (CRows.r2 hrows);obtain ⟨A3,n3,rfl⟩:=Kd.R_slice (CRows.r3 hrows);obtain ⟨A4,n4,rfl⟩:=Kd.R_slice (CRows.r4 hrows);obtain ⟨A5,n5,rfl⟩:=Kd.R_slice (CRows.r5 hrows);obtain ⟨A6,n6,rfl⟩:=Kd.R_slice (CRows.r6 hrows);obtain ⟨A7,n7,rfl⟩:=Kd.R_slice (CRows.r7 hrows);obtain ⟨A8,n8,rfl⟩:=Kd.R_slice (CRows.r8 hrows);obtain ⟨A9,n9,rfl⟩:=Kd.R_slice (CRows.r9 hrows);obtain ⟨A10,n10,rfl⟩:=Kd.R_slice (CRows.r10 hrows);have h9:=H2.out.below hb;have HROW:=A0_.mk (hrows.lower H2.out.be.size);dsimp only [cellsV];clear hb hrows;have e0 : w9.cell? ⟨w.heap.size,0,none⟩ = some (.int .i64 0):=bC_ h9.C 0;have g0:=bF_ h9.C 0;have e1 : w9.cell? ⟨w.heap.size,1,none⟩ = some (.slice none 0 0):=bC_ h9.C 1;have g1:=bF_ h9.C 1;have e2 : w9.cell? ⟨w.heap.size,2,none⟩ = some (.slice none 0 0):=bC_ h9.C 2;have g2:=bF_ h9.C 2;have e3 : w9.cell? ⟨w.heap.size,3,none⟩ = some (.slice none 0 0):=bC_ h9.C 3;have g3:=bF_ h9.C 3;have e4 : w9.cell? ⟨w.heap.size,4,none⟩ = some (.slice none 0 0):=bC_ h9.C 4;have g4:=bF_ h9.C 4;have e5 : w9.cell? ⟨w.heap.size,5,none⟩ = some (.slice none 0 0):=bC_ h9.C 5;have g5:=bF_ h9.C 5;have e6 : w9.cell? ⟨w.heap.size,6,none⟩ = some (.slice none 0 0):=bC_ h9.C 6;have g6:=bF_ h9.C 6;have e7 : w9.cell? ⟨w.heap.size,7,none⟩ = some (.slice none 0 0):=bC_ h9.C 7;have g7:=bF_ h9.C 7;have e8 : w9.cell? ⟨w.heap.size,8,none⟩ = some (.slice none 0 0):=bC_ h9.C 8;have g8:=bF_ h9.C 8;have e9 : w9.cell? ⟨w.heap.size,9,none⟩ = some (.slice none 0 0):=bC_ h9.C 9;have g9:=bF_ h9.C 9;have e10 : w9.cell? ⟨w.heap.size,10,none⟩ = some (.slice none 0 0):=bC_ h9.C 10;have g10:=bF_ h9.C 10;have d0:=bC_ h9.F 0;have d1:=bC_ h9.F 1;have q0:=bF_ h9.F 0;have q1:=bF_ h9.F 1))
   have h10:=h9.setC HROW.out
   dsimp only at h10
   have h11:=RdS.setF h10 fa fc
   have H11:=A0_.mk h11
   clear h9 h10 h11
   exact either_results H11.out rfl rfl
  ·rw [if_neg ca]
   obtain ⟨c,fa,fc,hrb⟩ : ∃ a b d,readF s = (a,b,d):=⟨_,_,_,rfl⟩
   rw [hrb]
   have HRB:=A0_.mk hrb
   clear hrb
   have cab:=bytes_ne ca
   clear ca hh
   go_enter Tryz.func12,Tryz.ntmps12
   go_upto_region 2 with (first|(go_at_call 18;refine HH.out.mono ?_;rintro e w1 ⟨v1,rfl,hr,hb⟩;obtain ⟨A1,n1,rfl⟩:=Kd.R_slice hr;have HRS1:=A0_.mk (HRS.out.below hb);have HR1:=A0_.mk (Kd.R_lower hr HRS.out.be.size);clear hr hb))
   have HLT1:=A0_.mk (blk_lt HRS1.out.F)
   have hbe:=eA_ (Below.refl w1.heap.size w1) (.cells #[.int .i64 0,.int .i64 0] 32)
   have h2:=HRS1.out.below hbe
   have hnr:=Kd.R_below HR1.out hbe
   have hL0:=blk_new w1 (.cells #[.int .i64 0,.int .i64 0] 32)
   clear hbe HRS1 HR1
   generalize w1.alloc (.cells #[.int .i64 0,.int .i64 0] 32) = W2 at h2 hnr hL0 ⊢
   generalize w1.heap.size = gT at HLT1 hL0 ⊢
   have hlt:=HLT1.out
   have f0 : W2.cell? ⟨gT,0,none⟩ = some (.int .i64 0):=bC_ hL0 0
   have f1 : W2.cell? ⟨gT,1,none⟩ = some (.int .i64 0):=bC_ hL0 1
   go_upto_region 6 with (fail)
   clear f0 f1
   have hCA:=read_calls (GV_below HG.out h2.be) hs
   rw [HRB.out] at hCA
   have HCA:=A0_.mk hCA
   have H2:=A0_.mk h2
   clear hCA hs h2 hnr hL0
   go_wp2_with (first|(go_at_call 17;refine HCA.out.mono ?_;rintro e w9 ⟨v,rfl,hrows,hb⟩;obtain ⟨v1,v2,v3,v4,v5,v6,v7,v8,v9,v10⟩:=v;obtain ⟨A1,n1,rfl⟩:=Kd.R_slice (CRows.r1 hrows);obtain ⟨A2,n2,rfl⟩:=Kd.R_slice (CRows.r2 hrows);obtain ⟨A3,n3,rfl⟩:=Kd.R_slice (CRows.r3 hrows);obtain ⟨A4,n4,rfl⟩:=Kd.R_slice (CRows.r4 hrows);obtain ⟨A5,n5,rfl⟩:=Kd.R_slice (CRows.r5 hrows);obtain ⟨A6,n6,rfl⟩:=Kd.R_slice (CRows.r6 hrows);obtain ⟨A7,n7,rfl⟩:=Kd.R_slice (CRows.r7 hrows);obtain ⟨A8,n8,rfl⟩:=Kd.R_slice (CRows.r8 hrows);obtain ⟨A9,n9,rfl⟩:=Kd.R_slice (CRows.r9 hrows);obtain ⟨A10,n10,rfl⟩:=Kd.R_slice (CRows.r10 hrows);have h9:=H2.out.below hb;have HROW:=A0_.mk (hrows.lower H2.out.be.size);dsimp only [cellsV];clear hb hrows;have e0 : w9.cell? ⟨w.heap.size,0,none⟩ = some (.int .i64 0):=bC_ h9.C 0;have g0:=bF_ h9.C 0;have e1 : w9.cell? ⟨w.heap.size,1,none⟩ = some (.slice none 0 0):=bC_ h9.C 1;have g1:=bF_ h9.C 1;have e2 : w9.cell? ⟨w.heap.size,2,none⟩ = some (.slice none 0 0):=bC_ h9.C 2;have g2:=bF_ h9.C 2;have e3 : w9.cell? ⟨w.heap.size,3,none⟩ = some (.slice none 0 0):=bC_ h9.C 3;have g3:=bF_ h9.C 3;have e4 : w9.cell? ⟨w.heap.size,4,none⟩ = some (.slice none 0 0):=bC_ h9.C 4;have g4:=bF_ h9.C 4;have e5 : w9.cell? ⟨w.heap.size,5,none⟩ = some (.slice none 0 0):=bC_ h9.C 5;have g5:=bF_ h9.C 5;have e6 : w9.cell? ⟨w.heap.size,6,none⟩ = some (.slice none 0 0):=bC_ h9.C 6;have g6:=bF_ h9.C 6;have e7 : w9.cell? ⟨w.heap.size,7,none⟩ = some (.slice none 0 0):=bC_ h9.C 7;have g7:=bF_ h9.C 7;have e8 : w9.cell? ⟨w.heap.size,8,none⟩ = some (.slice none 0 0):=bC_ h9.C 8;have g8:=bF_ h9.C 8;have e9 : w9.cell? ⟨w.heap.size,9,none⟩ = some (.slice none 0 0):=bC_ h9.C 9;have g9:=bF_ h9.C 9;have e10 : w9.cell? ⟨w.heap.size,10,none⟩ = some (.slice none 0 0):=bC_ h9.C 10;have g10:=bF_ h9.C 10;have d0:=bC_ h9.F 0;have d1:=bC_ h9.F 1;have q0:=bF_ h9.F 0;have q1:=bF_ h9.F 1))
   have h10:=h9.setC HROW.out
   dsimp only at h10
   have h11:=RdS.setF h10 fa fc
   have H11:=A0_.mk h11
   clear h9 h10 h11
   exact either_results H11.out rfl rfl
 ·rw [if_pos c0]
  have c0b : (code == 0) = false:=beq_eq_false_iff_ne.mpr c0
  have HC0:=A0_.mk c0
  clear c0 hh hs
  go_enter Tryz.func12,Tryz.ntmps12
  go_upto_region 2 with (first|(go_at_call 18;refine HH.out.mono ?_;rintro e w1 ⟨v1,rfl,hr,hb⟩;obtain ⟨A1,n1,rfl⟩:=Kd.R_slice hr;have HRS1:=A0_.mk (HRS.out.below hb);have HR1:=A0_.mk (Kd.R_lower hr HRS.out.be.size);clear hr hb))
  have HLT1:=A0_.mk (blk_lt HRS1.out.F)
  have hbe:=eA_ (Below.refl w1.heap.size w1) (.cells #[.int .i64 0,.int .i64 code] 32)
  have h2:=HRS1.out.below hbe
  have hnr:=Kd.R_below HR1.out hbe
  have hL0:=blk_new w1 (.cells #[.int .i64 0,.int .i64 code] 32)
  clear hbe HRS1 HR1
  generalize w1.alloc (.cells #[.int .i64 0,.int .i64 code] 32) = W2 at h2 hnr hL0 ⊢
  generalize w1.heap.size = gT at HLT1 hL0 ⊢
  have hlt:=HLT1.out
  have f0 : W2.cell? ⟨gT,0,none⟩ = some (.int .i64 0):=bC_ hL0 0
  have f1 : W2.cell? ⟨gT,1,none⟩ = some (.int .i64 code):=bC_ hL0 1
  go_upto_region 3 with (fail)
  clear f0 f1
  have hR0:=h2
  have hC0:=hR0.C
  have e0 : W2.cell? ⟨w.heap.size,0,none⟩ = some (.int .i64 0):=bC_ hC0 0
  have g0:=bF_ hC0 0
  have e1 : W2.cell? ⟨w.heap.size,1,none⟩ = some (.slice none 0 0):=bC_ hC0 1
  have g1:=bF_ hC0 1
  have e2 : W2.cell? ⟨w.heap.size,2,none⟩ = some (.slice none 0 0):=bC_ hC0 2
  have g2:=bF_ hC0 2
  have e3 : W2.cell? ⟨w.heap.size,3,none⟩ = some (.slice none 0 0):=bC_ hC0 3
  have g3:=bF_ hC0 3
  have e4 : W2.cell? ⟨w.heap.size,4,none⟩ = some (.slice none 0 0):=bC_ hC0 4
  have g4:=bF_ hC0 4
  have e5 : W2.cell? ⟨w.heap.size,5,none⟩ = some (.slice none 0 0):=bC_ hC0 5
  have g5:=bF_ hC0 5
  have e6 : W2.cell? ⟨w.heap.size,6,none⟩ = some (.slice none 0 0):=bC_ hC0 6
  have g6:=bF_ hC0 6
  have e7 : W2.cell? ⟨w.heap.size,7,none⟩ = some (.slice none 0 0):=bC_ hC0 7
  have g7:=bF_ hC0 7
  have e8 : W2.cell? ⟨w.heap.size,8,none⟩ = some (.slice none 0 0):=bC_ hC0 8
  have g8:=bF_ hC0 8
  have e9 : W2.cell? ⟨w.heap.size,9,none⟩ = some (.slice none 0 0):=bC_ hC0 9
  have g9:=bF_ hC0 9
  have e10 : W2.cell? ⟨w.heap.size,10,none⟩ = some (.slice none 0 0):=bC_ hC0 10
  have g10:=bF_ hC0 10
  refine wp_normal' ?_
  refine start_ (n:=4) (S:=fun w' => w'.cell? ⟨gT,0,none⟩ = some (.int .i64 0) ∧ w'.cell? ⟨gT,1,none⟩ = some (.int .i64 code)) (ds:=[3]) #[false,false,false,false] (by kernel_rfl) rfl rfl ⟨bC_ hL0 0,bC_ hL0 1⟩ (fun hHeld => ?_)
  refine pure_ (i:=0) (N:=some 19) (v:=?_) (a':=?_) #[true,false,false,false] rfl rfl (by kernel_rfl) (fun _ _ _ h => by cases h.1) (Or.inl ⟨by rfl,?_⟩) ?_ ?_
  rotate_left
  ·intro w'
   go_simp
   with_reducible rfl
  rotate_left
  ·simp only [Act.put,sA_,sB_,sC_]
   rfl
  refine take_ (i:=1) (N:=some 20) (v:=?_) (a':=?_) #[true,true,false,false] rfl rfl (by kernel_rfl) (fun _ _ _ h => by cases h.1) (Or.inl ⟨by rfl,?_⟩) hHeld ?_ ?_
  rotate_left
  ·intro w' s0
   obtain ⟨s0_,s1_⟩:=s0
   go_simp
   with_reducible rfl
  rotate_left
  ·simp only [Act.put,sA_,sB_,sC_]
   rfl
  refine one_ (i:=2) (N:=none) #[true,true,true,false] rfl rfl (by kernel_rfl) (by decide) (fun K hK => ?_)
  refine skip_ (w1:=(((((((((((W2.drew).setCell ⟨w.heap.size,0,none⟩ (.int .i64 0)).setCell ⟨w.heap.size,1,none⟩ (.slice none 0 0)).setCell ⟨w.heap.size,2,none⟩ (.slice none 0 0)).setCell ⟨w.heap.size,3,none⟩ (.slice none 0 0)).setCell ⟨w.heap.size,4,none⟩ (.slice none 0 0)).setCell ⟨w.heap.size,5,none⟩ (.slice none 0 0)).setCell ⟨w.heap.size,6,none⟩ (.slice none 0 0)).setCell ⟨w.heap.size,7,none⟩ (.slice none 0 0)).setCell ⟨w.heap.size,8,none⟩ (.slice none 0 0)).setCell ⟨w.heap.size,9,none⟩ (.slice none 0 0)).setCell ⟨w.heap.size,10,none⟩ (.slice none 0 0)) rfl rfl ?_ ?_
  ·go_simp
  have h3:=(hR0.below (below_drew (Below.refl W2.heap.size W2))).setC (rows_nil W2.drew w.heap.size)
  dsimp only [nilVS,x0S] at h3
  have hF3:=h3.F
  have hL3:=far11 (keep_below hL0 (below_drew (Below.refl W2.heap.size W2))) (S:=w.heap.size) (by omega) (.int .i64 0) (.slice none 0 0) (.slice none 0 0) (.slice none 0 0) (.slice none 0 0) (.slice none 0 0) (.slice none 0 0) (.slice none 0 0) (.slice none 0 0) (.slice none 0 0) (.slice none 0 0)
  refine hK.out _ _ ⟨bC_ hL3 0,bC_ hL3 1⟩ (fun hHeld2 => ?_)
  clear hK K hHeld e0 g0 e1 g1 e2 g2 e3 g3 e4 g4 e5 g5 e6 g6 e7 g7 e8 g8 e9 g9 e10 g10
  generalize (((((((((((W2.drew).setCell ⟨w.heap.size,0,none⟩ (.int .i64 0)).setCell ⟨w.heap.size,1,none⟩ (.slice none 0 0)).setCell ⟨w.heap.size,2,none⟩ (.slice none 0 0)).setCell ⟨w.heap.size,3,none⟩ (.slice none 0 0)).setCell ⟨w.heap.size,4,none⟩ (.slice none 0 0)).setCell ⟨w.heap.size,5,none⟩ (.slice none 0 0)).setCell ⟨w.heap.size,6,none⟩ (.slice none 0 0)).setCell ⟨w.heap.size,7,none⟩ (.slice none 0 0)).setCell ⟨w.heap.size,8,none⟩ (.slice none 0 0)).setCell ⟨w.heap.size,9,none⟩ (.slice none 0 0)).setCell ⟨w.heap.size,10,none⟩ (.slice none 0 0) = W3 at h3 hF3 hL3 hHeld2 ⊢
  have d0:=bC_ hF3 0
  have d1:=bC_ hF3 1
  have q0':=bF_ hF3 0
  have q1':=bF_ hF3 1
  refine last_ (i:=3) (N:=none) #[true,true,true,true] rfl rfl (by kernel_rfl) (by decide) (fun K hK => ?_)
  refine skip_ (w1:=(W3.setCell ⟨w.heap.size + 1,0,none⟩ (.int .i64 0)).setCell ⟨w.heap.size + 1,1,none⟩ (.int .i64 code)) rfl rfl ?_ ?_
  ·go_simp
  refine hK.out _ _ ?_
  clear hK K
  have h4 : RdS w _ x0S nilVS 0 code:=RdS.setF h3 0 code
  clear d0 d1 q0' q1' h3 hF3 hL3 hHeld2 hC0 hR0
  generalize (W3.setCell ⟨w.heap.size + 1,0,none⟩ (.int .i64 0)).setCell ⟨w.heap.size + 1,1,none⟩ (.int .i64 code) = W4 at h4 ⊢
  refine done_ (by kernel_rfl) ?_
  refine ⟨rfl,?_⟩
  rename_i hKK
  refine hKK _ _ ?_
  have H4:=A0_.mk h4
  clear hKK h4
  go_wp2
  exact either_results H4.out rfl rfl
end Go.Proofs.YtdmngdohlobogaaGreatDoor.Asc
end
section
namespace Go.Proofs.YtdmngdohlobogaaGreatDoor.Asc
open Go Go.RowKit Go.Proofs.YtdmngdohlobogaaGreatDoorW.PrintWords Go.Proofs.YtdmngdohlobogaaGreatDoorW.PrintLast Go.Proofs.YtdmngdohlobogaaGreatDoorW.PrintMore
set_option linter.unusedVariables false
set_option linter.unusedSimpArgs false
def exB1 : ByteArray:=⟨#[97,105,103,32,51,32,50,32,48,32,49,32,49,10,55,10,2,2]⟩
def exB2 : ByteArray:=⟨#[97,105,103,32,51,32,50,32,48,32,48,32,49,10,0,2]⟩
theorem exB1_read : readB exB1 = (⟨3,[2,4],[],[7],[],[],[],[],[⟨6,4,2⟩],[],[]⟩,0,0):=by kernel_rfl
theorem exB2_read : readB exB2 = (x0S,14,52):=by kernel_rfl
theorem ownB_form {α : Type} {d : Kd α} {e : Nat} {W : World} {base : Nat} {ok : Nat → Prop} {v : Value} {xs : List α} (h : d.R e W base ok v xs) (h0 : 0 < xs.length) : ∃ g c,v = .slice (some ⟨g,0,none⟩) xs.length c:=by
 obtain ⟨inner,ho⟩:=Kd.R_own h
 rcases ho.2 with ⟨_,h1⟩|⟨g,cap,cur,rfl,_⟩
 ·omega
 ·exact ⟨g,cap,rfl⟩
theorem and_cells {W : World} {base : Nat} {ok : Nat → Prop} {A : Option Addr} {n c : Nat} {x : S125} (h : k125.R 75 W base ok (.slice A n c) [x]) : ∃ g,A = some ⟨g,0,none⟩ ∧ W.cell? ⟨g,0,none⟩ = some (.int .i64 x.f0) ∧ W.cell? ⟨g,1,none⟩ = some (.int .i64 x.f1) ∧ W.cell? ⟨g,2,none⟩ = some (.int .i64 x.f2):=by
 obtain ⟨g,c',he⟩:=ownB_form h (Nat.lt_succ_self 0)
 injection he with he _ _
 subst he
 obtain ⟨ad,ea,h0,h1,h2⟩:=C_and_get (Kd.R_reads' h).2.2 0 (Nat.lt_succ_self 0)
 injection ea with ea
 subst ea
 simp only [Nat.zero_mul,add_plain,Nat.zero_add] at h0 h1 h2
 exact ⟨g,rfl,h0,h1,h2⟩
theorem intB_cell {W : World} {base : Nat} {ok : Nat → Prop} {A : Option Addr} {n c : Nat} {x : Int} (h : (Kd.int .i64).R 3 W base ok (.slice A n c) [x]) : ∃ g,A = some ⟨g,0,none⟩ ∧ W.cell? ⟨g,0,none⟩ = some (.int .i64 x):=by
 obtain ⟨g,c',he,_,hc⟩:=row_some h (Nat.lt_succ_self 0)
 injection he with he _ _
 exact ⟨g,he,hc 0 (Nat.lt_succ_self 0)⟩
set_option maxHeartbeats 4000000 in
set_option maxRecDepth 100000 in
theorem worksB_calls {w : World} (hG : GV w) : Calls Tryz.prog 11 #[] w fun e w' => e = .returned (.bool true) ∧ Below w.heap.size w w':=by
 have hR1:=readB_calls (s:=exB1) hG (by decide)
 rw [exB1_read] at hR1
 unfold ReadEnd exB1 at hR1
 dsimp only at hR1
 have HR1:=A0_.mk hR1
 have HG:=A0_.mk hG
 clear hR1 hG
 go_enter Tryz.func11,Tryz.ntmps11
 go_upto_region 2 with (first|(go_at_call 7;refine HR1.out.mono ?_;rintro e w1 ⟨v,rfl,hrows,hb⟩;obtain ⟨v1,v2,v3,v4,v5,v6,v7,v8,v9,v10⟩:=v;obtain ⟨A1_,n1_,rfl⟩:=Kd.R_slice (CRows.r1 hrows);obtain ⟨A2_,n2_,rfl⟩:=Kd.R_slice (CRows.r2 hrows);obtain ⟨A3_,n3_,rfl⟩:=Kd.R_slice (CRows.r3 hrows);obtain ⟨A4_,n4_,rfl⟩:=Kd.R_slice (CRows.r4 hrows);obtain ⟨A5_,n5_,rfl⟩:=Kd.R_slice (CRows.r5 hrows);obtain ⟨A6_,n6_,rfl⟩:=Kd.R_slice (CRows.r6 hrows);obtain ⟨A7_,n7_,rfl⟩:=Kd.R_slice (CRows.r7 hrows);obtain ⟨A8_,n8_,rfl⟩:=Kd.R_slice (CRows.r8 hrows);obtain ⟨A9_,n9_,rfl⟩:=Kd.R_slice (CRows.r9 hrows);obtain ⟨A10_,n10_,rfl⟩:=Kd.R_slice (CRows.r10 hrows);dsimp only [cellsV];have HROW:=A0_.mk hrows;have HB1:=A0_.mk hb;clear hrows hb))
 have hb1:=blk_new w1 (.cells #[.int .i64 3,.slice A1_ 2 n1_,.slice A2_ 0 n2_,.slice A3_ 1 n3_,.slice A4_ 0 n4_,.slice A5_ 0 n5_,.slice A6_ 0 n6_,.slice A7_ 0 n7_,.slice A8_ 1 n8_,.slice A9_ 0 n9_,.slice A10_ 0 n10_] 29)
 have hb2:=blk_new (w1.alloc (.cells #[.int .i64 3,.slice A1_ 2 n1_,.slice A2_ 0 n2_,.slice A3_ 1 n3_,.slice A4_ 0 n4_,.slice A5_ 0 n5_,.slice A6_ 0 n6_,.slice A7_ 0 n7_,.slice A8_ 1 n8_,.slice A9_ 0 n9_,.slice A10_ 0 n10_] 29)) (.cells #[.int .i64 0,.int .i64 0] 32)
 simp only [World.size_alloc] at hb2
 have hb1:=bA_ hb1 (.cells #[.int .i64 0,.int .i64 0] 32)
 have hbe : Below w1.heap.size w1 ((w1.alloc (.cells #[.int .i64 3,.slice A1_ 2 n1_,.slice A2_ 0 n2_,.slice A3_ 1 n3_,.slice A4_ 0 n4_,.slice A5_ 0 n5_,.slice A6_ 0 n6_,.slice A7_ 0 n7_,.slice A8_ 1 n8_,.slice A9_ 0 n9_,.slice A10_ 0 n10_] 29)).alloc (.cells #[.int .i64 0,.int .i64 0] 32)):=eA_ (eA_ (Below.refl _ _) _) _
 obtain ⟨g8,e8,y80,y81,y82⟩:=and_cells HROW.out.r8
 obtain ⟨g3,e3,y30⟩:=intB_cell HROW.out.r3
 subst e8
 subst e3
 replace y80:=pw_cell_below hbe y80
 replace y81:=pw_cell_below hbe y81
 replace y82:=pw_cell_below hbe y82
 replace y30:=pw_cell_below hbe y30
 have hB2:=HB1.out.trans (hbe.mono HB1.out.size)
 clear hbe HROW
 generalize hw2 : (w1.alloc (.cells #[.int .i64 3,.slice A1_ 2 n1_,.slice A2_ 0 n2_,.slice (some ⟨g3,0,none⟩) 1 n3_,.slice A4_ 0 n4_,.slice A5_ 0 n5_,.slice A6_ 0 n6_,.slice A7_ 0 n7_,.slice (some ⟨g8,0,none⟩) 1 n8_,.slice A9_ 0 n9_,.slice A10_ 0 n10_] 29)).alloc (.cells #[.int .i64 0,.int .i64 0] 32) = w2 at hb1 hb2 y80 y81 y82 y30 hB2 ⊢
 clear hw2 HB1
 have hR2:=readB_calls (s:=exB2) (GV_below HG.out hB2) (by decide)
 rw [exB2_read] at hR2
 unfold ReadEnd exB2 at hR2
 dsimp only [x0S] at hR2
 have HR2:=A0_.mk hR2
 have HB2:=A0_.mk hB2
 generalize w1.heap.size = b1 at hb1 hb2 ⊢
 have K1:=A0_.mk hb1
 have K2:=A0_.mk hb2
 have Y0:=A0_.mk y80
 have Y1:=A0_.mk y81
 have Y2:=A0_.mk y82
 have Y4:=A0_.mk y30
 clear hR2 hB2 hb1 hb2 y80 y81 y82 y30
 go_upto_region 3 with (first|(go_at_call 7;refine HR2.out.mono ?_;rintro e w3 ⟨v,rfl,hrows,hb⟩;obtain ⟨v1,v2,v3,v4,v5,v6,v7,v8,v9,v10⟩:=v;obtain ⟨A1q,n1q,rfl⟩:=Kd.R_slice (CRows.r1 hrows);obtain ⟨A2q,n2q,rfl⟩:=Kd.R_slice (CRows.r2 hrows);obtain ⟨A3q,n3q,rfl⟩:=Kd.R_slice (CRows.r3 hrows);obtain ⟨A4q,n4q,rfl⟩:=Kd.R_slice (CRows.r4 hrows);obtain ⟨A5q,n5q,rfl⟩:=Kd.R_slice (CRows.r5 hrows);obtain ⟨A6q,n6q,rfl⟩:=Kd.R_slice (CRows.r6 hrows);obtain ⟨A7q,n7q,rfl⟩:=Kd.R_slice (CRows.r7 hrows);obtain ⟨A8q,n8q,rfl⟩:=Kd.R_slice (CRows.r8 hrows);obtain ⟨A9q,n9q,rfl⟩:=Kd.R_slice (CRows.r9 hrows);obtain ⟨A10q,n10q,rfl⟩:=Kd.R_slice (CRows.r10 hrows);dsimp only [cellsV];have HBB:=A0_.mk hb;clear hrows hb))
 have hf:=blk_new (w3.alloc (.cells #[.int .i64 0,.slice A1q 0 n1q,.slice A2q 0 n2q,.slice A3q 0 n3q,.slice A4q 0 n4q,.slice A5q 0 n5q,.slice A6q 0 n6q,.slice A7q 0 n7q,.slice A8q 0 n8q,.slice A9q 0 n9q,.slice A10q 0 n10q] 29)) (.cells #[.int .i64 14,.int .i64 52] 32)
 simp only [World.size_alloc] at hf
 have hbe : Below w3.heap.size w3 ((w3.alloc (.cells #[.int .i64 0,.slice A1q 0 n1q,.slice A2q 0 n2q,.slice A3q 0 n3q,.slice A4q 0 n4q,.slice A5q 0 n5q,.slice A6q 0 n6q,.slice A7q 0 n7q,.slice A8q 0 n8q,.slice A9q 0 n9q,.slice A10q 0 n10q] 29)).alloc (.cells #[.int .i64 14,.int .i64 52] 32)):=eA_ (eA_ (Below.refl _ _) _) _
 have hbb:=HBB.out.trans (hbe.mono HBB.out.size)
 have hB4:=HB2.out.trans (hbb.mono HB2.out.size)
 have x1:=pw_cell_below hbb (show w2.cell? ⟨b1,1,none⟩ = some (.slice A1_ 2 n1_) from bC_ K1.out 1)
 have x3:=pw_cell_below hbb (show w2.cell? ⟨b1,3,none⟩ = some (.slice (some ⟨g3,0,none⟩) 1 n3_) from bC_ K1.out 3)
 have x8:=pw_cell_below hbb (show w2.cell? ⟨b1,8,none⟩ = some (.slice (some ⟨g8,0,none⟩) 1 n8_) from bC_ K1.out 8)
 have f0:=pw_cell_below hbb (show w2.cell? ⟨b1 + 1,0,none⟩ = some (.int .i64 0) from bC_ K2.out 0)
 have f1:=pw_cell_below hbb (show w2.cell? ⟨b1 + 1,1,none⟩ = some (.int .i64 0) from bC_ K2.out 1)
 have y80:=pw_cell_below hbb (show w2.cell? ⟨g8,0,none⟩ = some (.int .i64 6) from Y0.out)
 have y81:=pw_cell_below hbb (show w2.cell? ⟨g8,1,none⟩ = some (.int .i64 4) from Y1.out)
 have y82:=pw_cell_below hbb (show w2.cell? ⟨g8,2,none⟩ = some (.int .i64 2) from Y2.out)
 have y30:=pw_cell_below hbb Y4.out
 have z0:=bC_ hf 0
 have z1:=bC_ hf 1
 have HB4:=A0_.mk hB4
 clear hf hbe hbb hB4
 generalize (w3.alloc (.cells #[.int .i64 0,.slice A1q 0 n1q,.slice A2q 0 n2q,.slice A3q 0 n3q,.slice A4q 0 n4q,.slice A5q 0 n5q,.slice A6q 0 n6q,.slice A7q 0 n7q,.slice A8q 0 n8q,.slice A9q 0 n9q,.slice A10q 0 n10q] 29)).alloc (.cells #[.int .i64 14,.int .i64 52] 32) = w4 at x1 x3 x8 f0 f1 y80 y81 y82 y30 z0 z1 HB4 ⊢
 generalize w3.heap.size = b3 at z0 z1 ⊢
 go_wp2
 go_ret
 exact ⟨rfl,HB4.out⟩
end Go.Proofs.YtdmngdohlobogaaGreatDoor.Asc
end
