import Derived.Test.YtdmngdohlobogaaGreatDoorXABodyM
namespace Go.Proofs.YtdmngdohlobogaaGreatDoor.Asc
open Go Go.RowKit Go.Proofs.YtdmngdohlobogaaGreatDoorW.PrintWords Go.Proofs.YtdmngdohlobogaaGreatDoorW.PrintLast Go.Proofs.YtdmngdohlobogaaGreatDoorW.PrintMore
set_option linter.unusedVariables false
set_option linter.unusedSimpArgs false
set_option maxHeartbeats 8000000 in
set_option maxRecDepth 100000 in
theorem body_calls {w0 w : World} {R p gn cn : Nat} {s : ByteArray} (m0 m1 m2 m3 m4 m5 m6 m7 m8 : Nat) (hG : GV w0) (hB : Below w0.heap.size w0 w) (hR0 : w0.heap.size ≤ R) (hR : RD w R s p) (hp : p ≤ s.size) (hs : s.size ≤ 262144) (hgn : gn < w.heap.size) (hgR : gn ≠ R)
  (hm : m1 ≤ 16384 ∧ m2 ≤ 16384 ∧ m3 ≤ 16384 ∧ m4 ≤ 16384 ∧ m5 ≤ 16384 ∧ m6 ≤ 16384 ∧ m7 ≤ 16384 ∧ m8 ≤ 16384) (hc : ∀ i : Nat,i < 9 → w.cell? ⟨gn,i,none⟩ = some (.int .i64 ((([m0,m1,m2,m3,m4,m5,m6,m7,m8] : List Nat).getD i 0 : Nat) : Int))) :
  Calls Tryz.prog 50 #[.pointer (some ⟨R,0,none⟩),.slice (some ⟨gn,0,none⟩) 9 cn] w (BodyEnd w R s (bodyN s m0 m1 m2 m3 m4 m5 m6 m7 m8 p)):=by
 obtain ⟨res,hres⟩ : ∃ res,bodyN s m0 m1 m2 m3 m4 m5 m6 m7 m8 p = res:=⟨_,rfl⟩
 rw [hres]
 unfold bodyN at hres
 have HRES:=A0_.mk hres
 have HG:=A0_.mk hG
 have HB:=A0_.mk hB
 have HR0:=A0_.mk hR0
 have HS:=A0_.mk hs
 have HM:=A0_.mk hm
 have HGN:=A0_.mk hgn
 have HGR:=A0_.mk hgR
 have HRL:=A0_.mk hR.lt
 have HC0:=A0_.mk (show w.cell? ⟨gn,0,none⟩ = some (.int .i64 (m0 : Int)) from hc 0 (by decide))
 have HC1:=A0_.mk (show w.cell? ⟨gn,1,none⟩ = some (.int .i64 (m1 : Int)) from hc 1 (by decide))
 have HC2:=A0_.mk (show w.cell? ⟨gn,2,none⟩ = some (.int .i64 (m2 : Int)) from hc 2 (by decide))
 have HC3:=A0_.mk (show w.cell? ⟨gn,3,none⟩ = some (.int .i64 (m3 : Int)) from hc 3 (by decide))
 have HC4:=A0_.mk (show w.cell? ⟨gn,4,none⟩ = some (.int .i64 (m4 : Int)) from hc 4 (by decide))
 have HC5:=A0_.mk (show w.cell? ⟨gn,5,none⟩ = some (.int .i64 (m5 : Int)) from hc 5 (by decide))
 have HC6:=A0_.mk (show w.cell? ⟨gn,6,none⟩ = some (.int .i64 (m6 : Int)) from hc 6 (by decide))
 have HC7:=A0_.mk (show w.cell? ⟨gn,7,none⟩ = some (.int .i64 (m7 : Int)) from hc 7 (by decide))
 have HC8:=A0_.mk (show w.cell? ⟨gn,8,none⟩ = some (.int .i64 (m8 : Int)) from hc 8 (by decide))
 have HP:=A0_.mk hp
 have HRD:=A0_.mk (hR.below (eA_ (Below.refl w.heap.size w) (.cells #[.int .i64 0,.slice none 0 0,.slice none 0 0,.slice none 0 0,.slice none 0 0,.slice none 0 0,.slice none 0 0,.slice none 0 0,.slice none 0 0,.slice none 0 0,.slice none 0 0] 29)))
 have HKR:=A0_.mk (KR.below (Nat.le_of_lt hR.lt) (eA_ (Below.refl w.heap.size w) (.cells #[.int .i64 0,.slice none 0 0,.slice none 0 0,.slice none 0 0,.slice none 0 0,.slice none 0 0,.slice none 0 0,.slice none 0 0,.slice none 0 0,.slice none 0 0,.slice none 0 0] 29)))
 have HRES0:=A0_.mk (show (w.alloc (.cells #[.int .i64 0,.slice none 0 0,.slice none 0 0,.slice none 0 0,.slice none 0 0,.slice none 0 0,.slice none 0 0,.slice none 0 0,.slice none 0 0,.slice none 0 0,.slice none 0 0] 29)).heap[w.heap.size]? = some (.cells zero65 29 (0,0)) from blk_new w _)
 have HSZ:=A0_.mk (show w.heap.size < (w.alloc (.cells #[.int .i64 0,.slice none 0 0,.slice none 0 0,.slice none 0 0,.slice none 0 0,.slice none 0 0,.slice none 0 0,.slice none 0 0,.slice none 0 0,.slice none 0 0,.slice none 0 0] 29)).heap.size by simp)
 clear hres hG hB hR0 hs hm hgn hgR hc hp hR
 go_enter Tryz.func50,Tryz.ntmps50
 go_wp2
 generalize w.alloc (.cells #[.int .i64 0,.slice none 0 0,.slice none 0 0,.slice none 0 0,.slice none 0 0,.slice none 0 0,.slice none 0 0,.slice none 0 0,.slice none 0 0,.slice none 0 0,.slice none 0 0] 29) = W at HRD HKR HRES0 HSZ ⊢
 have HRDd:=A0_.mk (show RD W.drew R s p from HRD.out)
 have HKRd:=A0_.mk (HKR.out.trans (KR.below (Nat.le_of_lt HRD.out.lt) (below_drew (Below.refl W.heap.size W))))
 have c0:=cell_kr HKR.out HGN.out HGR.out HC0.out
 have c1:=cell_kr HKR.out HGN.out HGR.out HC1.out
 refine wp_pan (BodyX w R res) bodyX_post ?_
 refine start_ (n:=11) (S:=fun w' => w'.cell? ⟨gn,0,none⟩ = some (.int .i64 (m0 : Int)) ∧ w'.cell? ⟨gn,1,none⟩ = some (.int .i64 (m1 : Int))) (ds:=[10]) #[false,false,false,false,false,false,false,false,false,false,false] (by kernel_rfl) rfl rfl ⟨c0,c1⟩ (fun hHeld => ?_)
 refine pure_ (i:=0) (N:=some 14) (v:=?_) (a':=?_) #[true,false,false,false,false,false,false,false,false,false,false] rfl rfl (by kernel_rfl) hQ_pan (Or.inl ⟨by rfl,?_⟩) ?_ ?_
 rotate_left
 ·intro w'
  go_simp
  with_reducible rfl
 rotate_left
 ·simp only [Act.put,sA_,sB_,sC_]
  rfl
 refine pure_ (i:=1) (N:=some 15) (v:=?_) (a':=?_) #[true,true,false,false,false,false,false,false,false,false,false] rfl rfl (by kernel_rfl) hQ_pan (Or.inl ⟨by rfl,?_⟩) ?_ ?_
 rotate_left
 ·intro w'
  go_simp
  with_reducible rfl
 rotate_left
 ·simp only [Act.put,sA_,sB_,sC_]
  rfl
 refine take_ (i:=2) (N:=some 16) (v:=?_) (a':=?_) #[true,true,true,false,false,false,false,false,false,false,false] rfl rfl (by kernel_rfl) hQ_pan (Or.inl ⟨by rfl,?_⟩) hHeld ?_ ?_
 rotate_left
 ·intro w' s0
  obtain ⟨s0_,s1_⟩:=s0
  go_simp
  with_reducible rfl
 rotate_left
 ·simp only [Act.put,sA_,sB_,sC_]
  rfl
 refine pure_ (i:=3) (N:=some 17) (v:=?_) (a':=?_) #[true,true,true,true,false,false,false,false,false,false,false] rfl rfl (by kernel_rfl) hQ_pan (Or.inl ⟨by rfl,?_⟩) ?_ ?_
 rotate_left
 ·intro w'
  go_simp
  with_reducible rfl
 rotate_left
 ·simp only [Act.put,sA_,sB_,sC_]
  rfl
 refine pure_ (i:=4) (N:=some 18) (v:=?_) (a':=?_) #[true,true,true,true,true,false,false,false,false,false,false] rfl rfl (by kernel_rfl) hQ_pan (Or.inl ⟨by rfl,?_⟩) ?_ ?_
 rotate_left
 ·intro w'
  go_simp
  with_reducible rfl
 rotate_left
 ·simp only [Act.put,sA_,sB_,sC_]
  rfl
 refine pure_ (i:=5) (N:=some 19) (v:=?_) (a':=?_) #[true,true,true,true,true,true,false,false,false,false,false] rfl rfl (by kernel_rfl) hQ_pan (Or.inl ⟨by rfl,?_⟩) ?_ ?_
 rotate_left
 ·intro w'
  go_simp
  with_reducible rfl
 rotate_left
 ·simp only [Act.put,sA_,sB_,sC_]
  rfl
 refine take_ (i:=6) (N:=some 20) (v:=?_) (a':=?_) #[true,true,true,true,true,true,true,false,false,false,false] rfl rfl (by kernel_rfl) hQ_pan (Or.inl ⟨by rfl,?_⟩) hHeld ?_ ?_
 rotate_left
 ·intro w' s0
  obtain ⟨s0_,s1_⟩:=s0
  go_simp
  with_reducible rfl
 rotate_left
 ·simp only [Act.put,sA_,sB_,sC_]
  rfl
 refine join_ (σ:=Nat × Option Addr × Nat × Nat) 1 #[true,true,true,true,true,true,true,true,true,true,false] (fun z => [(21,.slice z.2.1 z.2.2.1 z.2.2.2),(22,.agg #[.int .i64 (m0 : Int),.slice z.2.1 z.2.2.1 z.2.2.2,.slice none 0 0,.slice none 0 0,.slice none 0 0,.slice none 0 0,.slice none 0 0,.slice none 0 0,.slice none 0 0,.slice none 0 0,.slice none 0 0]),(5,.pointer (some ⟨z.1,0,none⟩))]) (fun z W' => ∃ i q,listF s m1 p = .ok (i,q) ∧ BS w W' R z.1 s q x0S v0S ∧ Kd.R (Kd.int .i64) 3 W' w.heap.size (fun _ => True) (.slice z.2.1 z.2.2.1 z.2.2.2) i) ?cont ?orders
 case orders =>
  intro hcont
  refine two_ (i:=7) (j:=9) (Ni:=some 21) (Nj:=some 5) #[true,true,true,true,true,true,true,true,false,false,false] #[true,true,true,true,true,true,true,false,false,true,false] rfl rfl rfl rfl (by kernel_rfl) (by decide) (by decide) (fun K hK => ?_) (fun K hK => ?_)
  ·refine goesP_ Tryz.func75 (by kernel_rfl) rfl #[.pointer (some ⟨R,0,none⟩),.int .i64 (m1 : Int)] (by rfl) rfl rfl (by (try simp only [List.map_toArray,List.map_cons,List.map_nil]);first|done|rfl) ?_
   refine (list_calls (n:=m1) HG.out (HKRd.out.base HB.out HR0.out) HR0.out HRDd.out HP.out HS.out HM.out.1).mono ?_
   intro e W1 he
   cases hl1 : listF s m1 p with
   |error e0 =>
    rw [hl1] at he
    obtain ⟨rfl,hk⟩:=he
    exact .inr ⟨_,rfl,pan_in rfl ⟨e0,rfl,by rw [← HRES.out,hl1];rfl,HKRd.out.trans hk⟩⟩
   |ok iq =>
    obtain ⟨i,q⟩:=iq
    rw [hl1] at he
    obtain ⟨v,rfl,hr,hrd,hkr⟩:=he
    obtain ⟨A1,n1,rfl⟩:=Kd.R_slice hr
    have hk1:=HKRd.out.trans hkr
    refine .inl ⟨_,rfl,hK.out _ _ ⟨cell_kr hk1 HGN.out HGR.out HC0.out,cell_kr hk1 HGN.out HGR.out HC1.out⟩ (fun hHeld2 => ?_)⟩
    clear hK K
    refine norm_ (a':=?_) ?_ ?_
    rotate_left
    ·show Act.put _ (some 21) _ = _
     simp only [Act.put,sA_,sB_,sC_]
     rfl
    refine pure_ (i:=8) (N:=some 22) (v:=?_) (a':=?_) #[true,true,true,true,true,true,true,true,true,false,false] rfl rfl (by kernel_rfl) hQ_pan (Or.inl ⟨by rfl,?_⟩) ?_ ?_
    rotate_left
    ·intro w'
     go_simp
     with_reducible rfl
    rotate_left
    ·simp only [Act.put,sA_,sB_,sC_]
     rfl
    refine one_ (i:=9) (N:=some 5) #[true,true,true,true,true,true,true,true,true,true,false] rfl rfl (by kernel_rfl) (by decide) (fun K hK => ?_)
    refine value_ (v:=.pointer (some ⟨W1.heap.size,0,none⟩)) (w1:=W1.alloc (.cells #[.int .i64 0,.slice none 0 0,.slice none 0 0,.slice none 0 0,.slice none 0 0,.slice none 0 0,.slice none 0 0,.slice none 0 0,.slice none 0 0,.slice none 0 0,.slice none 0 0] 29)) rfl rfl ?_ ?_
    ·go_simp
    have hk2:=hk1.trans (KR.below (Nat.le_of_lt hrd.lt) (eA_ (Below.refl W1.heap.size W1) (.cells #[.int .i64 0,.slice none 0 0,.slice none 0 0,.slice none 0 0,.slice none 0 0,.slice none 0 0,.slice none 0 0,.slice none 0 0,.slice none 0 0,.slice none 0 0,.slice none 0 0] 29)))
    refine hK.out _ _ ⟨cell_kr hk2 HGN.out HGR.out HC0.out,cell_kr hk2 HGN.out HGR.out HC1.out⟩ (fun hHeld3 => ?_)
    clear hK K
    refine norm_ (a':=_) ?_ (hcont (W1.heap.size,A1,i.length,n1) _ ⟨i,q,hl1,BS.begin (blk_new _ _) ?_ (hrd.below (eA_ (Below.refl _ _) _)) hk2 ?_ HRL.out,?_⟩)
    ·simp only [putAll,Act.put,sA_,sB_,sC_]
    ·exact bA_ ((hkr.kb.2 _ (Nat.lt_of_lt_of_le HSZ.out (Nat.le_refl _)) (Nat.ne_of_gt HRL.out)).trans HRES0.out) _
    ·exact Nat.lt_of_lt_of_le HSZ.out hkr.kb.1
    ·exact Kd.R_lower (Kd.R_alloc hr _) HKRd.out.kb.1
  ·refine value_ (v:=.pointer (some ⟨W.drew.heap.size,0,none⟩)) (w1:=W.drew.alloc (.cells #[.int .i64 0,.slice none 0 0,.slice none 0 0,.slice none 0 0,.slice none 0 0,.slice none 0 0,.slice none 0 0,.slice none 0 0,.slice none 0 0,.slice none 0 0,.slice none 0 0] 29)) rfl rfl ?_ ?_
   ·go_simp
   have hkr:=KR.below (Nat.le_of_lt HRDd.out.lt) (eA_ (Below.refl W.drew.heap.size W.drew) (.cells #[.int .i64 0,.slice none 0 0,.slice none 0 0,.slice none 0 0,.slice none 0 0,.slice none 0 0,.slice none 0 0,.slice none 0 0,.slice none 0 0,.slice none 0 0,.slice none 0 0] 29))
   have hk1:=HKRd.out.trans hkr
   have hrd:=HRDd.out.below (eA_ (Below.refl W.drew.heap.size W.drew) (.cells #[.int .i64 0,.slice none 0 0,.slice none 0 0,.slice none 0 0,.slice none 0 0,.slice none 0 0,.slice none 0 0,.slice none 0 0,.slice none 0 0,.slice none 0 0,.slice none 0 0] 29))
   have hcb:=blk_new W.drew (.cells #[.int .i64 0,.slice none 0 0,.slice none 0 0,.slice none 0 0,.slice none 0 0,.slice none 0 0,.slice none 0 0,.slice none 0 0,.slice none 0 0,.slice none 0 0,.slice none 0 0] 29)
   have hre:=bA_ (w:=W.drew) HRES0.out (.cells #[.int .i64 0,.slice none 0 0,.slice none 0 0,.slice none 0 0,.slice none 0 0,.slice none 0 0,.slice none 0 0,.slice none 0 0,.slice none 0 0,.slice none 0 0,.slice none 0 0] 29)
   refine hK.out _ _ ⟨cell_kr hk1 HGN.out HGR.out HC0.out,cell_kr hk1 HGN.out HGR.out HC1.out⟩ (fun hHeld2 => ?_)
   clear hK K
   generalize W.drew.alloc (.cells #[.int .i64 0,.slice none 0 0,.slice none 0 0,.slice none 0 0,.slice none 0 0,.slice none 0 0,.slice none 0 0,.slice none 0 0,.slice none 0 0,.slice none 0 0,.slice none 0 0] 29) = W1 at hkr hk1 hrd hcb hre hHeld2 ⊢
   refine norm_ (a':=?_) ?_ ?_
   rotate_left
   ·show Act.put _ (some 5) _ = _
    simp only [Act.put,sA_,sB_,sC_]
    rfl
   refine one_ (i:=7) (N:=some 21) #[true,true,true,true,true,true,true,true,false,true,false] rfl rfl (by kernel_rfl) (by decide) (fun K hK => ?_)
   refine goesP_ Tryz.func75 (by kernel_rfl) rfl #[.pointer (some ⟨R,0,none⟩),.int .i64 (m1 : Int)] (by rfl) rfl rfl (by (try simp only [List.map_toArray,List.map_cons,List.map_nil]);first|done|rfl) ?_
   refine (list_calls (n:=m1) HG.out (hk1.base HB.out HR0.out) HR0.out hrd HP.out HS.out HM.out.1).mono ?_
   intro e W2 he
   cases hl1 : listF s m1 p with
   |error e0 =>
    rw [hl1] at he
    obtain ⟨rfl,hk⟩:=he
    exact .inr ⟨_,rfl,pan_in rfl ⟨e0,rfl,by rw [← HRES.out,hl1];rfl,hk1.trans hk⟩⟩
   |ok iq =>
    obtain ⟨i,q⟩:=iq
    rw [hl1] at he
    obtain ⟨v,rfl,hr,hrd2,hkr2⟩:=he
    obtain ⟨A1,n1,rfl⟩:=Kd.R_slice hr
    have hk2:=hk1.trans hkr2
    refine .inl ⟨_,rfl,hK.out _ _ ⟨cell_kr hk2 HGN.out HGR.out HC0.out,cell_kr hk2 HGN.out HGR.out HC1.out⟩ (fun hHeld3 => ?_)⟩
    clear hK K
    refine norm_ (a':=?_) ?_ ?_
    rotate_left
    ·show Act.put _ (some 21) _ = _
     simp only [Act.put,sA_,sB_,sC_]
     rfl
    refine pure_ (i:=8) (N:=some 22) (v:=?_) (a':=?_) #[true,true,true,true,true,true,true,true,true,true,false] rfl rfl (by kernel_rfl) hQ_pan (Or.inl ⟨by rfl,?_⟩) ?_ ?_
    rotate_left
    ·intro w'
     go_simp
     with_reducible rfl
    rotate_left
    ·simp only [Act.put,sA_,sB_,sC_]
     rfl
    have hgt : R < W.drew.heap.size:=HRDd.out.lt
    refine norm_ (a':=_) ?_ (hcont (W.drew.heap.size,A1,i.length,n1) _ ⟨i,q,hl1,BS.begin ((hkr2.kb.2 _ (blk_lt hcb) (by omega)).trans hcb) ((hkr2.kb.2 _ (blk_lt hre) (Nat.ne_of_gt HRL.out)).trans hre) hrd2 hk2 HSZ.out HRL.out,?_⟩)
    ·simp only [putAll,Act.put,sA_,sB_,sC_]
    ·exact Kd.R_lower hr hk1.kb.1
 case cont =>
  rintro ⟨cb,A1,n1,k1⟩ W' ⟨i,q,hl1,hBS,hr1⟩
  dsimp only at hBS hr1 ⊢
  obtain rfl : n1 = i.length:=(Kd.R_reads' hr1).1
  refine norm_ (a':=?_) ?_ ?_
  rotate_left
  ·simp only [putAll,Act.put,sA_,sB_,sC_]
   rfl
  have hb : W'.heap[cb]? = some (.cells #[.int .i64 0,.slice none 0 0,.slice none 0 0,.slice none 0 0,.slice none 0 0,.slice none 0 0,.slice none 0 0,.slice none 0 0,.slice none 0 0,.slice none 0 0,.slice none 0 0] 29 (0,0)):=hBS.blk
  have e0:=bC_ hb 0
  have e1:=bC_ hb 1
  have e2:=bC_ hb 2
  have e3:=bC_ hb 3
  have e4:=bC_ hb 4
  have e5:=bC_ hb 5
  have e6:=bC_ hb 6
  have e7:=bC_ hb 7
  have e8:=bC_ hb 8
  have e9:=bC_ hb 9
  have e10:=bC_ hb 10
  have g0:=bF_ hb 0
  have g1:=bF_ hb 1
  have g2:=bF_ hb 2
  have g3:=bF_ hb 3
  have g4:=bF_ hb 4
  have g5:=bF_ hb 5
  have g6:=bF_ hb 6
  have g7:=bF_ hb 7
  have g8:=bF_ hb 8
  have g9:=bF_ hb 9
  have g10:=bF_ hb 10
  refine last_ (i:=10) (N:=none) #[true,true,true,true,true,true,true,true,true,true,true] rfl rfl (by kernel_rfl) (by decide) (fun K hK => ?_)
  refine skip_ (w1:=(((((((((((W').setCell ⟨cb,0,none⟩ (.int .i64 (m0 : Int))).setCell ⟨cb,1,none⟩ (.slice A1 i.length k1)).setCell ⟨cb,2,none⟩ (.slice none 0 0)).setCell ⟨cb,3,none⟩ (.slice none 0 0)).setCell ⟨cb,4,none⟩ (.slice none 0 0)).setCell ⟨cb,5,none⟩ (.slice none 0 0)).setCell ⟨cb,6,none⟩ (.slice none 0 0)).setCell ⟨cb,7,none⟩ (.slice none 0 0)).setCell ⟨cb,8,none⟩ (.slice none 0 0)).setCell ⟨cb,9,none⟩ (.slice none 0 0)).setCell ⟨cb,10,none⟩ (.slice none 0 0)) rfl rfl ?_ ?_
  ·go_simp
  refine hK.out _ _ ?_
  clear hK K
  have hBS2:=hBS.all_ (x':=⟨m0,i,[],[],[],[],[],[],[],[],[]⟩) (v':=⟨.slice A1 i.length k1,.slice none 0 0,.slice none 0 0,.slice none 0 0,.slice none 0 0,.slice none 0 0,.slice none 0 0,.slice none 0 0,.slice none 0 0,.slice none 0 0⟩) ⟨hr1,Kd.R_nil _ _ _ _ _,Kd.R_nil _ _ _ _ _,Kd.R_nil _ _ _ _ _,Kd.R_nil _ _ _ _ _,Kd.R_nil _ _ _ _ _,Kd.R_nil _ _ _ _ _,Kd.R_nil _ _ _ _ _,Kd.R_nil _ _ _ _ _,Kd.R_nil _ _ _ _ _⟩
  dsimp only at hBS2
  clear e0 g0 e1 g1 e2 g2 e3 g3 e4 g4 e5 g5 e6 g6 e7 g7 e8 g8 e9 g9 e10 g10
  generalize (((((((((((W').setCell ⟨cb,0,none⟩ (.int .i64 (m0 : Int))).setCell ⟨cb,1,none⟩ (.slice A1 i.length k1)).setCell ⟨cb,2,none⟩ (.slice none 0 0)).setCell ⟨cb,3,none⟩ (.slice none 0 0)).setCell ⟨cb,4,none⟩ (.slice none 0 0)).setCell ⟨cb,5,none⟩ (.slice none 0 0)).setCell ⟨cb,6,none⟩ (.slice none 0 0)).setCell ⟨cb,7,none⟩ (.slice none 0 0)).setCell ⟨cb,8,none⟩ (.slice none 0 0)).setCell ⟨cb,9,none⟩ (.slice none 0 0)).setCell ⟨cb,10,none⟩ (.slice none 0 0) = W2 at hBS2 ⊢
  refine done_ (by kernel_rfl) (pan_on ?_)
  have HBS:=A0_.mk hBS2
  have HQ:=A0_.mk (listF_place m1 HP.out hl1)
  have HRES1:=A0_.mk (show _ = res from HRES.out)
  have hres:=HRES.out
  rw [hl1] at hres
  dsimp only [bI] at hres
  have HRES:=A0_.mk hres
  rename_i hKK
  refine hKK _ _ ?_
  clear hKK c0 c1 hb hBS hBS2 hr1 hres HRES1 HRD HKR HRES0 HSZ HRDd HKRd hl1 HP
  have c2:=cell_kr HBS.out.kr HGN.out HGR.out HC2.out
  go_wp2
  (try simp only [Act.put,sA_,sB_,sC_])
  go_loopg [26] (m2 + 1) (fun kq v26 w' => ∃ (k : Nat) (acc : List S108) (pk : Nat) (v2 : Value),v26 = .int .i64 k ∧ A0_ (k + kq = m2 + 1) ∧ A0_ (k ≤ m2) ∧ A0_ (acc.length = k) ∧ A0_ (pk ≤ s.size) ∧ A0_ (bL s m0 m3 m4 m5 m6 m7 m8 i (appOk acc (latchesF s (m2 - k) pk)) = res) ∧ A0_ (BS w w' R cb s pk ⟨m0,i,acc,[],[],[],[],[],[],[],[]⟩ ⟨.slice A1 i.length k1,v2,.slice none 0 0,.slice none 0 0,.slice none 0 0,.slice none 0 0,.slice none 0 0,.slice none 0 0,.slice none 0 0,.slice none 0 0⟩))
  case atStart => exact ⟨0,[],q,_,rfl,⟨by omega⟩,⟨Nat.zero_le _⟩,⟨rfl⟩,HQ,⟨by rw [appOk_nil];exact HRES.out⟩,HBS⟩
  case round =>
   clear HRES HBS HQ c2
   obtain ⟨k,acc,pk,v2,rfl,HK,HKN,HAL,HP,HRES,HBS⟩:=hrel
   obtain ⟨A2,k2,rfl⟩:=Kd.R_slice HBS.out.rows.r2
   by_cases ck : k < m2
   ·obtain ⟨g1,rfl⟩ : ∃ g1,gk = g1 + 1:=by
     cases gk with
     |zero => have:=HK.out;omega
     |succ g1 => exact ⟨g1,rfl⟩
    have ckb : decide ((k : Int) < (m2 : Int)) = true:=decide_eq_true (by omega)
    have hw1 : IntKind.i64.wrap ((k : Int) + 1) = ((k + 1 : Nat) : Int):=by have:=HM.out;rw [IntKind.wrap_i64];omega
    have hB2 : Below w0.heap.size w0 wr:=HBS.out.kr.base HB.out HR0.out
    cases hrow : rowF s pk 2 3 with
    |none =>
     have HC:=A0_.mk (row_no' (least:=2) (most:=3) 2 3 rfl rfl HG.out hB2 HR0.out HBS.out.rd HP.out HS.out (by omega) hrow)
     have hr : res = .error pk:=by
      rw [← HRES.out,show m2 - k = (m2 - (k + 1)) + 1 by omega,latchesF,hrow]
      rfl
     have HR:=A0_.mk hr
     clear hB2 hrow hr
     go_wp2_with (go_at_call 76;refine HC.out.mono ?_;rintro e w1 ⟨rfl,hb⟩)
     exact ⟨rfl,body_thrown HR.out (HBS.out.kr.trans hb)⟩
    |some xq =>
     obtain ⟨x,q1⟩:=xq
     have HRW:=A0_.mk (row_yes' (least:=2) (most:=3) 2 3 rfl rfl HG.out hB2 HR0.out HBS.out.rd HP.out HS.out (by omega) hrow)
     have hxl:=rowF_len hrow
     have hr:=HRES.out
     rw [show m2 - k = (m2 - (k + 1)) + 1 by omega,latchesF_step hrow,appOk_app] at hr
     have HRES2:=A0_.mk hr
     have HPL:=A0_.mk (rowF_place HP.out hrow)
     have HCK:=A0_.mk ck
     clear hB2 hrow HRES hr
     rcases two_or_three hxl with ⟨xa,xb,rfl⟩|⟨xa,xb,xc,rfl⟩
     ·go_upto_region 5 with (first|(go_at_call 76;refine HRW.out.mono ?_;rintro e w1 ⟨v,rfl,hrr,hrd,hkr⟩;obtain ⟨g,cp,rfl,hgb,hcc⟩:=row_some hrr (Nat.succ_pos _);have HBS1:=A0_.mk (HBS.out.kr_ hkr hrd);have y0 : w1.cell? ⟨g,0,none⟩ = some (.int .i64 xa):=hcc 0 (Nat.succ_pos _);have y1 : w1.cell? ⟨g,1,none⟩ = some (.int .i64 xb):=hcc 1 (Nat.succ_lt_succ (Nat.succ_pos _));clear hrr hgb hcc hrd hkr))
      refine wp_normal' ?_
      refine start_ (n:=9) (S:=fun w' => w'.cell? ⟨g,0,none⟩ = some (.int .i64 xa) ∧ w'.cell? ⟨g,1,none⟩ = some (.int .i64 xb)) (ds:=[8]) #[false,false,false,false,false,false,false,false,false] (by kernel_rfl) rfl rfl ⟨y0,y1⟩ (fun hHeld => ?_)
      refine pure_ (i:=0) (N:=some 30) (v:=?_) (a':=?_) #[true,false,false,false,false,false,false,false,false] rfl rfl (by kernel_rfl) (fun _ _ _ h => by cases h.1) (Or.inl ⟨by rfl,?_⟩) ?_ ?_
      rotate_left
      ·intro w'
       go_simp
       with_reducible rfl
      rotate_left
      ·simp only [Act.put,sA_,sB_,sC_]
       rfl
      refine pure_ (i:=1) (N:=some 31) (v:=?_) (a':=?_) #[true,true,false,false,false,false,false,false,false] rfl rfl (by kernel_rfl) (fun _ _ _ h => by cases h.1) (Or.inl ⟨by rfl,?_⟩) ?_ ?_
      rotate_left
      ·intro w'
       go_simp
       with_reducible rfl
      rotate_left
      ·simp only [Act.put,sA_,sB_,sC_]
       rfl
      refine take_ (i:=2) (N:=some 32) (v:=?_) (a':=?_) #[true,true,true,false,false,false,false,false,false] rfl rfl (by kernel_rfl) (fun _ _ _ h => by cases h.1) (Or.inl ⟨by rfl,?_⟩) hHeld ?_ ?_
      rotate_left
      ·intro w' s0
       obtain ⟨s0_,s1_⟩:=s0
       go_simp
       with_reducible rfl
      rotate_left
      ·simp only [Act.put,sA_,sB_,sC_]
       rfl
      refine pure_ (i:=3) (N:=some 33) (v:=?_) (a':=?_) #[true,true,true,true,false,false,false,false,false] rfl rfl (by kernel_rfl) (fun _ _ _ h => by cases h.1) (Or.inl ⟨by rfl,?_⟩) ?_ ?_
      rotate_left
      ·intro w'
       go_simp
       with_reducible rfl
      rotate_left
      ·simp only [Act.put,sA_,sB_,sC_]
       rfl
      refine pure_ (i:=4) (N:=some 34) (v:=?_) (a':=?_) #[true,true,true,true,true,false,false,false,false] rfl rfl (by kernel_rfl) (fun _ _ _ h => by cases h.1) (Or.inl ⟨by rfl,?_⟩) ?_ ?_
      rotate_left
      ·intro w'
       go_simp
       with_reducible rfl
      rotate_left
      ·simp only [Act.put,sA_,sB_,sC_]
       rfl
      refine take_ (i:=5) (N:=some 35) (v:=?_) (a':=?_) #[true,true,true,true,true,true,false,false,false] rfl rfl (by kernel_rfl) (fun _ _ _ h => by cases h.1) (Or.inl ⟨by rfl,?_⟩) hHeld ?_ ?_
      rotate_left
      ·intro w' s0
       obtain ⟨s0_,s1_⟩:=s0
       go_simp
       with_reducible rfl
      rotate_left
      ·simp only [Act.put,sA_,sB_,sC_]
       rfl
      refine pure_ (i:=6) (N:=some 36) (v:=?_) (a':=?_) #[true,true,true,true,true,true,true,false,false] rfl rfl (by kernel_rfl) (fun _ _ _ h => by cases h.1) (Or.inl ⟨by rfl,?_⟩) ?_ ?_
      rotate_left
      ·intro w'
       go_simp
       with_reducible rfl
      rotate_left
      ·simp only [Act.put,sA_,sB_,sC_]
       rfl
      refine one_ (i:=7) (N:=some 7) #[true,true,true,true,true,true,true,true,false] rfl rfl (by kernel_rfl) (by decide) (fun K hK => ?_)
      refine value_ (v:=.pointer (some ⟨w1.drew.heap.size,0,none⟩)) (w1:=w1.drew.alloc (.cells #[.int .i64 0,.int .i64 0,.int .i64 0] 61)) rfl rfl ?_ ?_
      ·go_simp
      have hba : Below w1.drew.heap.size w1.drew (w1.drew.alloc (.cells #[.int .i64 0,.int .i64 0,.int .i64 0] 61)):=eA_ (Below.refl _ _) _
      refine hK.out _ _ ⟨pw_cell_below hba hHeld.1,pw_cell_below hba hHeld.2⟩ (fun hHeld2 => ?_)
      clear hK K
      refine norm_ (a':=?_) ?_ ?_
      rotate_left
      ·show Act.put _ (some 7) _ = _
       simp only [Act.put,sA_,sB_,sC_]
       rfl
      have hlb0:=blk_new w1.drew (.cells #[.int .i64 0,.int .i64 0,.int .i64 0] 61)
      have d0:=bC_ hlb0 0
      have d1:=bC_ hlb0 1
      have d2:=bC_ hlb0 2
      have q0:=bF_ hlb0 0
      have q1:=bF_ hlb0 1
      have q2:=bF_ hlb0 2
      refine last_ (i:=8) (N:=none) #[true,true,true,true,true,true,true,true,true] rfl rfl (by kernel_rfl) (by decide) (fun K hK => ?_)
      refine skip_ (w1:=(((w1.drew.alloc (.cells #[.int .i64 0,.int .i64 0,.int .i64 0] 61)).setCell ⟨w1.drew.heap.size,0,none⟩ (.int .i64 xa)).setCell ⟨w1.drew.heap.size,1,none⟩ (.int .i64 xb)).setCell ⟨w1.drew.heap.size,2,none⟩ (.int .i64 0)) rfl rfl ?_ ?_
      ·go_simp
      refine hK.out _ _ ?_
      clear hK K
      have hlb:=blk3 hlb0 (.int .i64 xa) (.int .i64 xb) (.int .i64 0)
      have hbe : Below w1.heap.size w1 ((((w1.drew.alloc (.cells #[.int .i64 0,.int .i64 0,.int .i64 0] 61)).setCell ⟨w1.drew.heap.size,0,none⟩ (.int .i64 xa)).setCell ⟨w1.drew.heap.size,1,none⟩ (.int .i64 xb)).setCell ⟨w1.drew.heap.size,2,none⟩ (.int .i64 0)):=below3 (eA_ (below_drew (Below.refl _ _)) _) (Nat.le_refl _) _ _ _
      have hlz : w1.heap.size ≤ w1.drew.heap.size:=Nat.le_refl _
      clear hlb0 hba hHeld hHeld2 d0 d1 d2 q0 q1 q2 y0 y1
      generalize (((w1.drew.alloc (.cells #[.int .i64 0,.int .i64 0,.int .i64 0] 61)).setCell ⟨w1.drew.heap.size,0,none⟩ (.int .i64 xa)).setCell ⟨w1.drew.heap.size,1,none⟩ (.int .i64 xb)).setCell ⟨w1.drew.heap.size,2,none⟩ (.int .i64 0) = W4 at hlb hbe ⊢
      generalize w1.drew.heap.size = lb at hlb hlz ⊢
      refine done_ (by kernel_rfl) ⟨rfl,?_⟩
      rename_i hKK
      refine hKK _ _ ?_
      clear hKK
      go_upto_region 8 with (fail)
      have HBS5:=A0_.mk (HBS1.out.below hbe)
      clear hbe
      generalize hW5 : W4 = W5 at hlb HBS5 ⊢
      clear hW5
      have d0 : W5.cell? ⟨lb,0,none⟩ = some (.int .i64 xa):=bC_ hlb 0
      have d1 : W5.cell? ⟨lb,1,none⟩ = some (.int .i64 xb):=bC_ hlb 1
      have d2 : W5.cell? ⟨lb,2,none⟩ = some (.int .i64 0):=bC_ hlb 2
      have f2 : W5.cell? ⟨cb,2,none⟩ = some (.slice A2 acc.length k2):=bC_ HBS5.out.blk 2
      clear hlb hlz
      go_wp2_with (first|(at_builtin;refine Kd.R_append k108 (w0:=W5) w.heap.size rfl (.tmp 45) (.tmp 47) 23 61 (.agg #[(.int .i64 0),(.int .i64 0),(.int .i64 0)]) 24 rfl Tryz.underlying23 info108 rfl (by decide) (by decide) _ acc (latchOf [xa,xb]) [.int .i64 xa,.int .i64 xb,.int .i64 0] (fun _ => True) (fun _ => False) rfl rfl (k108_mkM _ _ _ (latchOf [xa,xb])) (fun _ h => h.elim) (fun _ _ => trivial) HBS5.out.rows.r2 (Below.refl _ _) HBS5.out.kr.kb.1 (by have:=HAL.out;have:=HCK.out;have:=HM.out;omega) ?_;intro v3 w6 hr3 hb3 hg3 hat3;obtain ⟨A3,n3,rfl⟩:=Kd.R_slice hr3;simp only [List.length_append,List.length_cons,List.length_nil,Nat.zero_add] at hr3;have HBS6:=A0_.mk (HBS5.out.grow2 hg3 hr3);have hcb:=HBS5.out.cb2 hg3;have eC : w6.cell? ⟨cb,2,none⟩ = some (.slice A2 acc.length k2):=bC_ hcb 2;have gC:=bF_ hcb 2;clear hr3 hb3 hg3 hat3 hcb))
      go_roundg g1
      case measure => omega
      case rel => exact ⟨k + 1,acc ++ [latchOf [xa,xb]],q1,_,rfl,⟨by have:=HK.out;omega⟩,⟨by have:=HCK.out;omega⟩,⟨by rw [List.length_append,HAL.out];rfl⟩,⟨HPL.out.2⟩,HRES2,HBS6⟩
     ·go_upto_region 5 with (first|(go_at_call 76;refine HRW.out.mono ?_;rintro e w1 ⟨v,rfl,hrr,hrd,hkr⟩;obtain ⟨g,cp,rfl,hgb,hcc⟩:=row_some hrr (Nat.succ_pos _);have HBS1:=A0_.mk (HBS.out.kr_ hkr hrd);have y0 : w1.cell? ⟨g,0,none⟩ = some (.int .i64 xa):=hcc 0 (Nat.succ_pos _);have y1 : w1.cell? ⟨g,1,none⟩ = some (.int .i64 xb):=hcc 1 (Nat.succ_lt_succ (Nat.succ_pos _));have HY2:=A0_.mk (show w1.cell? ⟨g,2,none⟩ = some (.int .i64 xc) from hcc 2 (Nat.lt_succ_self 2));clear hrr hgb hcc hrd hkr))
      refine wp_normal' ?_
      refine start_ (n:=9) (S:=fun w' => w'.cell? ⟨g,0,none⟩ = some (.int .i64 xa) ∧ w'.cell? ⟨g,1,none⟩ = some (.int .i64 xb)) (ds:=[8]) #[false,false,false,false,false,false,false,false,false] (by kernel_rfl) rfl rfl ⟨y0,y1⟩ (fun hHeld => ?_)
      refine pure_ (i:=0) (N:=some 30) (v:=?_) (a':=?_) #[true,false,false,false,false,false,false,false,false] rfl rfl (by kernel_rfl) (fun _ _ _ h => by cases h.1) (Or.inl ⟨by rfl,?_⟩) ?_ ?_
      rotate_left
      ·intro w'
       go_simp
       with_reducible rfl
      rotate_left
      ·simp only [Act.put,sA_,sB_,sC_]
       rfl
      refine pure_ (i:=1) (N:=some 31) (v:=?_) (a':=?_) #[true,true,false,false,false,false,false,false,false] rfl rfl (by kernel_rfl) (fun _ _ _ h => by cases h.1) (Or.inl ⟨by rfl,?_⟩) ?_ ?_
      rotate_left
      ·intro w'
       go_simp
       with_reducible rfl
      rotate_left
      ·simp only [Act.put,sA_,sB_,sC_]
       rfl
      refine take_ (i:=2) (N:=some 32) (v:=?_) (a':=?_) #[true,true,true,false,false,false,false,false,false] rfl rfl (by kernel_rfl) (fun _ _ _ h => by cases h.1) (Or.inl ⟨by rfl,?_⟩) hHeld ?_ ?_
      rotate_left
      ·intro w' s0
       obtain ⟨s0_,s1_⟩:=s0
       go_simp
       with_reducible rfl
      rotate_left
      ·simp only [Act.put,sA_,sB_,sC_]
       rfl
      refine pure_ (i:=3) (N:=some 33) (v:=?_) (a':=?_) #[true,true,true,true,false,false,false,false,false] rfl rfl (by kernel_rfl) (fun _ _ _ h => by cases h.1) (Or.inl ⟨by rfl,?_⟩) ?_ ?_
      rotate_left
      ·intro w'
       go_simp
       with_reducible rfl
      rotate_left
      ·simp only [Act.put,sA_,sB_,sC_]
       rfl
      refine pure_ (i:=4) (N:=some 34) (v:=?_) (a':=?_) #[true,true,true,true,true,false,false,false,false] rfl rfl (by kernel_rfl) (fun _ _ _ h => by cases h.1) (Or.inl ⟨by rfl,?_⟩) ?_ ?_
      rotate_left
      ·intro w'
       go_simp
       with_reducible rfl
      rotate_left
      ·simp only [Act.put,sA_,sB_,sC_]
       rfl
      refine take_ (i:=5) (N:=some 35) (v:=?_) (a':=?_) #[true,true,true,true,true,true,false,false,false] rfl rfl (by kernel_rfl) (fun _ _ _ h => by cases h.1) (Or.inl ⟨by rfl,?_⟩) hHeld ?_ ?_
      rotate_left
      ·intro w' s0
       obtain ⟨s0_,s1_⟩:=s0
       go_simp
       with_reducible rfl
      rotate_left
      ·simp only [Act.put,sA_,sB_,sC_]
       rfl
      refine pure_ (i:=6) (N:=some 36) (v:=?_) (a':=?_) #[true,true,true,true,true,true,true,false,false] rfl rfl (by kernel_rfl) (fun _ _ _ h => by cases h.1) (Or.inl ⟨by rfl,?_⟩) ?_ ?_
      rotate_left
      ·intro w'
       go_simp
       with_reducible rfl
      rotate_left
      ·simp only [Act.put,sA_,sB_,sC_]
       rfl
      refine one_ (i:=7) (N:=some 7) #[true,true,true,true,true,true,true,true,false] rfl rfl (by kernel_rfl) (by decide) (fun K hK => ?_)
      refine value_ (v:=.pointer (some ⟨w1.drew.heap.size,0,none⟩)) (w1:=w1.drew.alloc (.cells #[.int .i64 0,.int .i64 0,.int .i64 0] 61)) rfl rfl ?_ ?_
      ·go_simp
      have hba : Below w1.drew.heap.size w1.drew (w1.drew.alloc (.cells #[.int .i64 0,.int .i64 0,.int .i64 0] 61)):=eA_ (Below.refl _ _) _
      refine hK.out _ _ ⟨pw_cell_below hba hHeld.1,pw_cell_below hba hHeld.2⟩ (fun hHeld2 => ?_)
      clear hK K
      refine norm_ (a':=?_) ?_ ?_
      rotate_left
      ·show Act.put _ (some 7) _ = _
       simp only [Act.put,sA_,sB_,sC_]
       rfl
      have hlb0:=blk_new w1.drew (.cells #[.int .i64 0,.int .i64 0,.int .i64 0] 61)
      have d0:=bC_ hlb0 0
      have d1:=bC_ hlb0 1
      have d2:=bC_ hlb0 2
      have q0:=bF_ hlb0 0
      have q1:=bF_ hlb0 1
      have q2:=bF_ hlb0 2
      refine last_ (i:=8) (N:=none) #[true,true,true,true,true,true,true,true,true] rfl rfl (by kernel_rfl) (by decide) (fun K hK => ?_)
      refine skip_ (w1:=(((w1.drew.alloc (.cells #[.int .i64 0,.int .i64 0,.int .i64 0] 61)).setCell ⟨w1.drew.heap.size,0,none⟩ (.int .i64 xa)).setCell ⟨w1.drew.heap.size,1,none⟩ (.int .i64 xb)).setCell ⟨w1.drew.heap.size,2,none⟩ (.int .i64 0)) rfl rfl ?_ ?_
      ·go_simp
      refine hK.out _ _ ?_
      clear hK K
      have hlb:=blk3 hlb0 (.int .i64 xa) (.int .i64 xb) (.int .i64 0)
      have hbe : Below w1.heap.size w1 ((((w1.drew.alloc (.cells #[.int .i64 0,.int .i64 0,.int .i64 0] 61)).setCell ⟨w1.drew.heap.size,0,none⟩ (.int .i64 xa)).setCell ⟨w1.drew.heap.size,1,none⟩ (.int .i64 xb)).setCell ⟨w1.drew.heap.size,2,none⟩ (.int .i64 0)):=below3 (eA_ (below_drew (Below.refl _ _)) _) (Nat.le_refl _) _ _ _
      have hlz : w1.heap.size ≤ w1.drew.heap.size:=Nat.le_refl _
      clear hlb0 hba hHeld hHeld2 d0 d1 d2 q0 q1 q2 y0 y1
      generalize (((w1.drew.alloc (.cells #[.int .i64 0,.int .i64 0,.int .i64 0] 61)).setCell ⟨w1.drew.heap.size,0,none⟩ (.int .i64 xa)).setCell ⟨w1.drew.heap.size,1,none⟩ (.int .i64 xb)).setCell ⟨w1.drew.heap.size,2,none⟩ (.int .i64 0) = W4 at hlb hbe ⊢
      generalize w1.drew.heap.size = lb at hlb hlz ⊢
      refine done_ (by kernel_rfl) ⟨rfl,?_⟩
      rename_i hKK
      refine hKK _ _ ?_
      clear hKK
      have y2:=pw_cell_below hbe HY2.out
      have d2:=bC_ hlb 2
      have q2:=bF_ hlb 2
      go_upto_region 8 with (fail)
      have HBS5:=A0_.mk (HBS1.out.below (hbe.setCell (p:=⟨lb,2,none⟩) hlz (.int .i64 xc)))
      have hlb:=blk_set hlb 2 (.int .i64 xc)
      clear hbe y2 d2 q2
      generalize W4.setCell ⟨lb,2,none⟩ (.int .i64 xc) = W5 at hlb HBS5 ⊢
      have d0 : W5.cell? ⟨lb,0,none⟩ = some (.int .i64 xa):=bC_ hlb 0
      have d1 : W5.cell? ⟨lb,1,none⟩ = some (.int .i64 xb):=bC_ hlb 1
      have d2 : W5.cell? ⟨lb,2,none⟩ = some (.int .i64 xc):=bC_ hlb 2
      have f2 : W5.cell? ⟨cb,2,none⟩ = some (.slice A2 acc.length k2):=bC_ HBS5.out.blk 2
      clear hlb hlz
      go_wp2_with (first|(at_builtin;refine Kd.R_append k108 (w0:=W5) w.heap.size rfl (.tmp 45) (.tmp 47) 23 61 (.agg #[(.int .i64 0),(.int .i64 0),(.int .i64 0)]) 24 rfl Tryz.underlying23 info108 rfl (by decide) (by decide) _ acc (latchOf [xa,xb,xc]) [.int .i64 xa,.int .i64 xb,.int .i64 xc] (fun _ => True) (fun _ => False) rfl rfl (k108_mkM _ _ _ (latchOf [xa,xb,xc])) (fun _ h => h.elim) (fun _ _ => trivial) HBS5.out.rows.r2 (Below.refl _ _) HBS5.out.kr.kb.1 (by have:=HAL.out;have:=HCK.out;have:=HM.out;omega) ?_;intro v3 w6 hr3 hb3 hg3 hat3;obtain ⟨A3,n3,rfl⟩:=Kd.R_slice hr3;simp only [List.length_append,List.length_cons,List.length_nil,Nat.zero_add] at hr3;have HBS6:=A0_.mk (HBS5.out.grow2 hg3 hr3);have hcb:=HBS5.out.cb2 hg3;have eC : w6.cell? ⟨cb,2,none⟩ = some (.slice A2 acc.length k2):=bC_ hcb 2;have gC:=bF_ hcb 2;clear hr3 hb3 hg3 hat3 hcb))
      go_roundg g1
      case measure => omega
      case rel => exact ⟨k + 1,acc ++ [latchOf [xa,xb,xc]],q1,_,rfl,⟨by have:=HK.out;omega⟩,⟨by have:=HCK.out;omega⟩,⟨by rw [List.length_append,HAL.out];rfl⟩,⟨HPL.out.2⟩,HRES2,HBS6⟩
   ·have ckb : decide ((k : Int) < (m2 : Int)) = false:=decide_eq_false (by omega)
    have hr:=HRES.out
    rw [show m2 - k = 0 by have:=HKN.out;omega,latchesF] at hr
    simp only [appOk,List.append_nil,bL] at hr
    have HRES3:=A0_.mk hr
    have HACC:=A0_.mk (show acc.length ≤ 16384 by have:=HAL.out;have:=HKN.out;have:=HM.out;omega)
    clear hr HRES HK HKN HAL
    have c3:=cell_kr HBS.out.kr HGN.out HGR.out HC3.out
    have c5:=cell_kr HBS.out.kr HGN.out HGR.out HC5.out
    have c6:=cell_kr HBS.out.kr HGN.out HGR.out HC6.out
    have HBSd:=A0_.mk (HBS.out.below (below_drew (Below.refl wr.heap.size wr)))
    clear HBS
    go_wp2
    refine wp_pan (BodyX w R res) bodyX_post ?_
    refine start_ (n:=21) (S:=fun w' => w'.cell? ⟨gn,3,none⟩ = some (.int .i64 (m3 : Int)) ∧ w'.cell? ⟨gn,5,none⟩ = some (.int .i64 (m5 : Int)) ∧ w'.cell? ⟨gn,6,none⟩ = some (.int .i64 (m6 : Int))) (ds:=[16,18,20]) #[false,false,false,false,false,false,false,false,false,false,false,false,false,false,false,false,false,false,false,false,false] (by kernel_rfl) rfl rfl ⟨c3,c5,c6⟩ (fun hHeld => ?_)
    refine pure_ (i:=0) (N:=some 51) (v:=?_) (a':=?_) #[true,false,false,false,false,false,false,false,false,false,false,false,false,false,false,false,false,false,false,false,false] rfl rfl (by kernel_rfl) hQ_pan (Or.inl ⟨by rfl,?_⟩) ?_ ?_
    rotate_left
    ·intro w'
     go_simp
     with_reducible rfl
    rotate_left
    ·simp only [Act.put,sA_,sB_,sC_]
     rfl
    refine pure_ (i:=1) (N:=some 52) (v:=?_) (a':=?_) #[true,true,false,false,false,false,false,false,false,false,false,false,false,false,false,false,false,false,false,false,false] rfl rfl (by kernel_rfl) hQ_pan (Or.inl ⟨by rfl,?_⟩) ?_ ?_
    rotate_left
    ·intro w'
     go_simp
     with_reducible rfl
    rotate_left
    ·simp only [Act.put,sA_,sB_,sC_]
     rfl
    refine pure_ (i:=2) (N:=some 53) (v:=?_) (a':=?_) #[true,true,true,false,false,false,false,false,false,false,false,false,false,false,false,false,false,false,false,false,false] rfl rfl (by kernel_rfl) hQ_pan (Or.inl ⟨by rfl,?_⟩) ?_ ?_
    rotate_left
    ·intro w'
     go_simp
     with_reducible rfl
    rotate_left
    ·simp only [Act.put,sA_,sB_,sC_]
     rfl
    refine take_ (i:=3) (N:=some 54) (v:=?_) (a':=?_) #[true,true,true,true,false,false,false,false,false,false,false,false,false,false,false,false,false,false,false,false,false] rfl rfl (by kernel_rfl) hQ_pan (Or.inl ⟨by rfl,?_⟩) hHeld ?_ ?_
    rotate_left
    ·intro w' s0
     obtain ⟨s0_,s1_,s2_⟩:=s0
     go_simp
     with_reducible rfl
    rotate_left
    ·simp only [Act.put,sA_,sB_,sC_]
     rfl
    refine pure_ (i:=5) (N:=some 56) (v:=?_) (a':=?_) #[true,true,true,true,false,true,false,false,false,false,false,false,false,false,false,false,false,false,false,false,false] rfl rfl (by kernel_rfl) hQ_pan (Or.inl ⟨by rfl,?_⟩) ?_ ?_
    rotate_left
    ·intro w'
     go_simp
     with_reducible rfl
    rotate_left
    ·simp only [Act.put,sA_,sB_,sC_]
     rfl
    refine pure_ (i:=6) (N:=some 57) (v:=?_) (a':=?_) #[true,true,true,true,false,true,true,false,false,false,false,false,false,false,false,false,false,false,false,false,false] rfl rfl (by kernel_rfl) hQ_pan (Or.inl ⟨by rfl,?_⟩) ?_ ?_
    rotate_left
    ·intro w'
     go_simp
     with_reducible rfl
    rotate_left
    ·simp only [Act.put,sA_,sB_,sC_]
     rfl
    refine pure_ (i:=7) (N:=some 58) (v:=?_) (a':=?_) #[true,true,true,true,false,true,true,true,false,false,false,false,false,false,false,false,false,false,false,false,false] rfl rfl (by kernel_rfl) hQ_pan (Or.inl ⟨by rfl,?_⟩) ?_ ?_
    rotate_left
    ·intro w'
     go_simp
     with_reducible rfl
    rotate_left
    ·simp only [Act.put,sA_,sB_,sC_]
     rfl
    refine take_ (i:=8) (N:=some 59) (v:=?_) (a':=?_) #[true,true,true,true,false,true,true,true,true,false,false,false,false,false,false,false,false,false,false,false,false] rfl rfl (by kernel_rfl) hQ_pan (Or.inl ⟨by rfl,?_⟩) hHeld ?_ ?_
    rotate_left
    ·intro w' s0
     obtain ⟨s0_,s1_,s2_⟩:=s0
     go_simp
     with_reducible rfl
    rotate_left
    ·simp only [Act.put,sA_,sB_,sC_]
     rfl
    refine pure_ (i:=10) (N:=some 61) (v:=?_) (a':=?_) #[true,true,true,true,false,true,true,true,true,false,true,false,false,false,false,false,false,false,false,false,false] rfl rfl (by kernel_rfl) hQ_pan (Or.inl ⟨by rfl,?_⟩) ?_ ?_
    rotate_left
    ·intro w'
     go_simp
     with_reducible rfl
    rotate_left
    ·simp only [Act.put,sA_,sB_,sC_]
     rfl
    refine pure_ (i:=11) (N:=some 62) (v:=?_) (a':=?_) #[true,true,true,true,false,true,true,true,true,false,true,true,false,false,false,false,false,false,false,false,false] rfl rfl (by kernel_rfl) hQ_pan (Or.inl ⟨by rfl,?_⟩) ?_ ?_
    rotate_left
    ·intro w'
     go_simp
     with_reducible rfl
    rotate_left
    ·simp only [Act.put,sA_,sB_,sC_]
     rfl
    refine pure_ (i:=12) (N:=some 63) (v:=?_) (a':=?_) #[true,true,true,true,false,true,true,true,true,false,true,true,true,false,false,false,false,false,false,false,false] rfl rfl (by kernel_rfl) hQ_pan (Or.inl ⟨by rfl,?_⟩) ?_ ?_
    rotate_left
    ·intro w'
     go_simp
     with_reducible rfl
    rotate_left
    ·simp only [Act.put,sA_,sB_,sC_]
     rfl
    refine take_ (i:=13) (N:=some 64) (v:=?_) (a':=?_) #[true,true,true,true,false,true,true,true,true,false,true,true,true,true,false,false,false,false,false,false,false] rfl rfl (by kernel_rfl) hQ_pan (Or.inl ⟨by rfl,?_⟩) hHeld ?_ ?_
    rotate_left
    ·intro w' s0
     obtain ⟨s0_,s1_,s2_⟩:=s0
     go_simp
     with_reducible rfl
    rotate_left
    ·simp only [Act.put,sA_,sB_,sC_]
     rfl
    refine one_ (i:=4) (N:=some 55) #[true,true,true,true,true,true,true,true,true,false,true,true,true,true,false,false,false,false,false,false,false] rfl rfl (by kernel_rfl) (by decide) (fun K hK => ?_)
    refine goesP_ Tryz.func75 (by kernel_rfl) rfl #[.pointer (some ⟨R,0,none⟩),.int .i64 (m3 : Int)] (by rfl) rfl rfl (by (try simp only [List.map_toArray,List.map_cons,List.map_nil]);first|done|rfl) ?_
    refine (list_calls (n:=m3) HG.out (HBSd.out.kr.base HB.out HR0.out) HR0.out HBSd.out.rd HP.out HS.out HM.out.2.2.1).mono ?_
    intro e W3 he
    cases hl3 : listF s m3 pk with
    |error e0 =>
     rw [hl3] at he
     obtain ⟨rfl,hk⟩:=he
     exact .inr ⟨_,rfl,pan_in rfl ⟨e0,rfl,by rw [← HRES3.out,hl3];rfl,HBSd.out.kr.trans hk⟩⟩
    |ok xq =>
     obtain ⟨o,q3⟩:=xq
     rw [hl3] at he
     obtain ⟨v,rfl,hr,hrd,hkr⟩:=he
     obtain ⟨A13,n13,rfl⟩:=Kd.R_slice hr
     have hrr:=HRES3.out
     rw [hl3] at hrr
     simp only [bO] at hrr
     have HRES4:=A0_.mk hrr
     have HR3:=A0_.mk (Kd.R_lower hr HBSd.out.kr.kb.1)
     have HBS3:=A0_.mk (HBSd.out.kr_ hkr hrd)
     have HP3:=A0_.mk (listF_place m3 HP.out hl3)
     skip
     refine .inl ⟨_,rfl,hK.out _ _ ⟨cell_kr HBS3.out.kr HGN.out HGR.out HC3.out,cell_kr HBS3.out.kr HGN.out HGR.out HC5.out,cell_kr HBS3.out.kr HGN.out HGR.out HC6.out⟩ (fun hHeld3 => ?_)⟩
     clear hK K hrr hr hrd hkr hl3
     refine norm_ (a':=?_) ?_ ?_
     rotate_left
     ·show Act.put _ (some 55) _ = _
      simp only [Act.put,sA_,sB_,sC_]
      rfl
     refine pure_ (i:=15) (N:=some 66) (v:=?_) (a':=?_) #[true,true,true,true,true,true,true,true,true,false,true,true,true,true,false,true,false,false,false,false,false] rfl rfl (by kernel_rfl) hQ_pan (Or.inl ⟨by rfl,?_⟩) ?_ ?_
     rotate_left
     ·intro w'
      go_simp
      with_reducible rfl
     rotate_left
     ·simp only [Act.put,sA_,sB_,sC_]
      rfl
     refine one_ (i:=9) (N:=some 60) #[true,true,true,true,true,true,true,true,true,true,true,true,true,true,false,true,false,false,false,false,false] rfl rfl (by kernel_rfl) (by decide) (fun K hK => ?_)
     refine goesP_ Tryz.func75 (by kernel_rfl) rfl #[.pointer (some ⟨R,0,none⟩),.int .i64 (m5 : Int)] (by rfl) rfl rfl (by (try simp only [List.map_toArray,List.map_cons,List.map_nil]);first|done|rfl) ?_
     refine (list_calls (n:=m5) HG.out (HBS3.out.kr.base HB.out HR0.out) HR0.out HBS3.out.rd HP3.out HS.out HM.out.2.2.2.2.1).mono ?_
     intro e W5 he
     cases hl4 : listF s m5 q3 with
     |error e0 =>
      rw [hl4] at he
      obtain ⟨rfl,hk⟩:=he
      exact .inr ⟨_,rfl,pan_in rfl ⟨e0,rfl,by rw [← HRES4.out,hl4];rfl,HBS3.out.kr.trans hk⟩⟩
     |ok xq =>
      obtain ⟨b,q4⟩:=xq
      rw [hl4] at he
      obtain ⟨v,rfl,hr,hrd,hkr⟩:=he
      obtain ⟨A14,n14,rfl⟩:=Kd.R_slice hr
      have hrr:=HRES4.out
      rw [hl4] at hrr
      simp only [bB] at hrr
      have HRES5:=A0_.mk hrr
      have HR4:=A0_.mk (Kd.R_lower hr HBS3.out.kr.kb.1)
      have HBS4:=A0_.mk (HBS3.out.kr_ hkr hrd)
      have HP4:=A0_.mk (listF_place m5 HP3.out hl4)
      replace HR3:=A0_.mk (KR.rows' hkr HR3.out HRL.out)
      refine .inl ⟨_,rfl,hK.out _ _ ⟨cell_kr HBS4.out.kr HGN.out HGR.out HC3.out,cell_kr HBS4.out.kr HGN.out HGR.out HC5.out,cell_kr HBS4.out.kr HGN.out HGR.out HC6.out⟩ (fun hHeld4 => ?_)⟩
      clear hK K hrr hr hrd hkr hl4
      refine norm_ (a':=?_) ?_ ?_
      rotate_left
      ·show Act.put _ (some 60) _ = _
       simp only [Act.put,sA_,sB_,sC_]
       rfl
      refine one_ (i:=14) (N:=some 65) #[true,true,true,true,true,true,true,true,true,true,true,true,true,true,true,true,false,false,false,false,false] rfl rfl (by kernel_rfl) (by decide) (fun K hK => ?_)
      refine goesP_ Tryz.func75 (by kernel_rfl) rfl #[.pointer (some ⟨R,0,none⟩),.int .i64 (m6 : Int)] (by rfl) rfl rfl (by (try simp only [List.map_toArray,List.map_cons,List.map_nil]);first|done|rfl) ?_
      refine (list_calls (n:=m6) HG.out (HBS4.out.kr.base HB.out HR0.out) HR0.out HBS4.out.rd HP4.out HS.out HM.out.2.2.2.2.2.1).mono ?_
      intro e W6 he
      cases hl5 : listF s m6 q4 with
      |error e0 =>
       rw [hl5] at he
       obtain ⟨rfl,hk⟩:=he
       exact .inr ⟨_,rfl,pan_in rfl ⟨e0,rfl,by rw [← HRES5.out,hl5];rfl,HBS4.out.kr.trans hk⟩⟩
      |ok xq =>
       obtain ⟨c,q5⟩:=xq
       rw [hl5] at he
       obtain ⟨v,rfl,hr,hrd,hkr⟩:=he
       obtain ⟨A15,n15,rfl⟩:=Kd.R_slice hr
       have hrr:=HRES5.out
       rw [hl5] at hrr
       simp only [bC] at hrr
       have HRES6:=A0_.mk hrr
       have HR5:=A0_.mk (Kd.R_lower hr HBS4.out.kr.kb.1)
       have HBS5:=A0_.mk (HBS4.out.kr_ hkr hrd)
       have HP5:=A0_.mk (listF_place m6 HP4.out hl5)
       replace HR3:=A0_.mk (KR.rows' hkr HR3.out HRL.out)
       replace HR4:=A0_.mk (KR.rows' hkr HR4.out HRL.out)
       refine .inl ⟨_,rfl,hK.out _ _ ⟨cell_kr HBS5.out.kr HGN.out HGR.out HC3.out,cell_kr HBS5.out.kr HGN.out HGR.out HC5.out,cell_kr HBS5.out.kr HGN.out HGR.out HC6.out⟩ (fun hHeld5 => ?_)⟩
       clear hK K hrr hr hrd hkr hl5
       refine norm_ (a':=?_) ?_ ?_
       rotate_left
       ·show Act.put _ (some 65) _ = _
        simp only [Act.put,sA_,sB_,sC_]
        rfl
       have hcb:=HBS5.out.blk
       have e3 : W6.cell? ⟨cb,3,none⟩ = some (.slice none 0 0):=bC_ hcb 3
       have g3:=bF_ hcb 3
       have e4 : W6.cell? ⟨cb,4,none⟩ = some (.slice none 0 0):=bC_ hcb 4
       have g4:=bF_ hcb 4
       have e5 : W6.cell? ⟨cb,5,none⟩ = some (.slice none 0 0):=bC_ hcb 5
       have g5:=bF_ hcb 5
       refine last_ (i:=16) (N:=none) #[true,true,true,true,true,true,true,true,true,true,true,true,true,true,true,true,true,false,false,false,false] rfl rfl (by kernel_rfl) (by decide) (fun K hK => ?_)
       refine skip_ (w1:=(W6).setCell ⟨cb,3,none⟩ (.slice A13 o.length n13)) rfl rfl ?_ ?_
       ·go_simp
       refine hK.out _ _ ?_
       clear hK K
       refine pure_ (i:=17) (N:=some 67) (v:=?_) (a':=?_) #[true,true,true,true,true,true,true,true,true,true,true,true,true,true,true,true,true,true,false,false,false] rfl rfl (by kernel_rfl) hQ_pan (Or.inl ⟨by rfl,?_⟩) ?_ ?_
       rotate_left
       ·intro w'
        go_simp
        with_reducible rfl
       rotate_left
       ·simp only [Act.put,sA_,sB_,sC_]
        rfl
       refine last_ (i:=18) (N:=none) #[true,true,true,true,true,true,true,true,true,true,true,true,true,true,true,true,true,true,true,false,false] rfl rfl (by kernel_rfl) (by decide) (fun K hK => ?_)
       refine skip_ (w1:=((W6).setCell ⟨cb,3,none⟩ (.slice A13 o.length n13)).setCell ⟨cb,4,none⟩ (.slice A14 b.length n14)) rfl rfl ?_ ?_
       ·go_simp
       refine hK.out _ _ ?_
       clear hK K
       refine pure_ (i:=19) (N:=some 68) (v:=?_) (a':=?_) #[true,true,true,true,true,true,true,true,true,true,true,true,true,true,true,true,true,true,true,true,false] rfl rfl (by kernel_rfl) hQ_pan (Or.inl ⟨by rfl,?_⟩) ?_ ?_
       rotate_left
       ·intro w'
        go_simp
        with_reducible rfl
       rotate_left
       ·simp only [Act.put,sA_,sB_,sC_]
        rfl
       refine last_ (i:=20) (N:=none) #[true,true,true,true,true,true,true,true,true,true,true,true,true,true,true,true,true,true,true,true,true] rfl rfl (by kernel_rfl) (by decide) (fun K hK => ?_)
       refine skip_ (w1:=(((W6).setCell ⟨cb,3,none⟩ (.slice A13 o.length n13)).setCell ⟨cb,4,none⟩ (.slice A14 b.length n14)).setCell ⟨cb,5,none⟩ (.slice A15 c.length n15)) rfl rfl ?_ ?_
       ·go_simp
       refine hK.out _ _ ?_
       clear hK K
       refine done_ (by kernel_rfl) ?_
       refine pan_on ?_
       have HBSp3:=HBS5.out.put3 HR3.out
       have HBSp4:=HBSp3.put4 (Kd.R_set HR4.out hcb (by decide) 3 _)
       have HBSp5:=HBSp4.put5 (Kd.R_set (Kd.R_set HR5.out hcb (by decide) 3 _) HBSp3.blk (by decide) 4 _)
       dsimp only at HBSp5
       clear e3 e4 e5 g3 g4 g5 hcb HBSp3 HBSp4
       generalize (((W6).setCell ⟨cb,3,none⟩ (.slice A13 o.length n13)).setCell ⟨cb,4,none⟩ (.slice A14 b.length n14)).setCell ⟨cb,5,none⟩ (.slice A15 c.length n15) = W7 at HBSp5 ⊢
       have HBS:=A0_.mk HBSp5
       rename_i hKK
       refine hKK _ _ ?_
       clear hKK HBSp5 HR3 HR4 HR5 HBS3 HBS4 HBS5 HBSd c3 c5 c6 hHeld hHeld3 hHeld4 hHeld5 HRES3 HRES4 HRES5 HP HP3 HP4
       obtain ⟨X,hX⟩ : ∃ X : S65,X = ⟨m0,i,acc,o,b,c,[],[],[],[],[]⟩:=⟨_,rfl⟩
       obtain ⟨VV,hVV⟩ : ∃ VV : VS,VV = ⟨.slice A1 i.length k1,.slice A2 acc.length k2,.slice A13 o.length n13,.slice A14 b.length n14,.slice A15 c.length n15,.slice none 0 0,.slice none 0 0,.slice none 0 0,.slice none 0 0,.slice none 0 0⟩:=⟨_,rfl⟩
       have hbs:=HBS.out
       rw [← hX,← hVV] at hbs
       have HX:=A0_.mk hX
       have HVV:=A0_.mk hVV
       replace HBS:=A0_.mk hbs
       have c7:=cell_kr HBS.out.kr HGN.out HGR.out HC7.out
       have HRL7:=A0_.mk (show R < W7.heap.size from HBS.out.rd.lt)
       clear hbs hX hVV
       go_wp2
       (try simp only [Act.put,sA_,sB_,sC_])
       go_loopg [8,72] (m7 + 1) (fun kq v8 v72 w' => ∃ (k : Nat) (z : List Int) (pk : Nat),v72 = .int .i64 k ∧ A0_ (k + kq = m7 + 1) ∧ A0_ (k ≤ m7) ∧ A0_ (z.length = k) ∧ A0_ (pk ≤ s.size) ∧ A0_ (bZ s m0 m4 m8 i acc o b c (appOk z (sizesF' s (m7 - k) pk)) = res) ∧ A0_ (∀ y ∈ z,0 ≤ y ∧ y ≤ 16384) ∧ A0_ (Kd.R (Kd.int .i64) 3 w' W7.heap.size (fun _ => True) v8 z) ∧ A0_ (RD w' R s pk) ∧ A0_ (KR W7 w' R))
       case atStart => exact ⟨0,[],q5,rfl,⟨by omega⟩,⟨Nat.zero_le _⟩,⟨rfl⟩,HP5,⟨by rw [appOk_nil];exact HRES6.out⟩,⟨fun y hy => by cases hy⟩,⟨Kd.R_nil _ _ _ _ _⟩,⟨HBS.out.rd⟩,⟨KR.refl _ _⟩⟩
       case round =>
        clear HRES6 HP5 c7
        obtain ⟨k,z,pk,rfl,HK,HKN,HAL,HP,HRES7,HZR,HAR,HRD,HKR⟩:=hrel
        obtain ⟨A8,n8,rfl⟩:=Kd.R_slice HAR.out
        have cr:=bC_ HRD.out 1
        by_cases ck : k < m7
        ·obtain ⟨g1,rfl⟩ : ∃ g1,gk = g1 + 1:=by
          cases gk with
          |zero => have:=HK.out;omega
          |succ g1 => exact ⟨g1,rfl⟩
         have ckb : decide ((k : Int) < (m7 : Int)) = true:=decide_eq_true (by omega)
         have hw1 : IntKind.i64.wrap ((k : Int) + 1) = ((k + 1 : Nat) : Int):=by have:=HM.out;rw [IntKind.wrap_i64];omega
         have hB2 : Below w0.heap.size w0 wr:=(HBS.out.kr.trans HKR.out).base HB.out HR0.out
         cases hrow : rowF s pk 1 1 with
         |none =>
          have HC:=A0_.mk (row_no' (least:=1) (most:=1) 1 1 rfl rfl HG.out hB2 HR0.out HRD.out HP.out HS.out (by omega) hrow)
          have hr : res = .error pk:=by
           rw [← HRES7.out,show m7 - k = (m7 - (k + 1)) + 1 by omega,sizesF',hrow]
           rfl
          have HR:=A0_.mk hr
          clear hB2 hrow hr
          go_wp2_with (go_at_call 76;refine HC.out.mono ?_;rintro e w1 ⟨rfl,hb⟩)
          exact ⟨rfl,body_thrown HR.out ((HBS.out.kr.trans HKR.out).trans hb)⟩
         |some xq =>
          obtain ⟨x,q1⟩:=xq
          have HC:=A0_.mk (row_yes' (least:=1) (most:=1) 1 1 rfl rfl HG.out hB2 HR0.out HRD.out HP.out HS.out (by omega) hrow)
          have hxl:=rowF_len hrow
          obtain ⟨x0,rfl⟩ : ∃ x0,x = [x0]:=List.length_eq_one_iff.1 (by omega)
          have HX0:=A0_.mk (rowF_range hrow x0 (by simp))
          by_cases cx : 16384 < x0
          ·have cxb : decide ((16384 : Int) < x0) = true:=decide_eq_true cx
           have hr : res = .error pk:=by
            rw [← HRES7.out,show m7 - k = (m7 - (k + 1)) + 1 by omega,sizesF',hrow]
            dsimp only
            rw [if_pos (show 16384 < ([x0] : List Int).getD 0 0 from cx)]
            rfl
           have HR:=A0_.mk hr
           clear hB2 hrow hr hxl
           go_wp2_with (first|(go_at_call 76;refine HC.out.mono ?_;rintro e w1 ⟨v,rfl,hrr,hrd,hkr⟩;obtain ⟨g,cp,rfl,hgb,hcc⟩:=row_some hrr (Nat.lt_succ_self 0);have y0 : w1.cell? ⟨g,0,none⟩ = some (.int .i64 x0):=hcc 0 (Nat.lt_succ_self 0);have HK1:=A0_.mk (HKR.out.trans hkr);clear hrr hgb hcc hrd hkr)|(go_at_call 58;refine (give_calls _ _ _ _).mono ?_;rintro e w3 ⟨rfl,rfl⟩))
           exact ⟨rfl,body_thrown HR.out (HBS.out.kr.trans HK1.out)⟩
          ·have cxb : decide ((16384 : Int) < x0) = false:=decide_eq_false cx
           have hr:=HRES7.out
           rw [show m7 - k = (m7 - (k + 1)) + 1 by omega,sizesF_step hrow cx,appOk_app] at hr
           have e2 : ([x0] : List Int).getD 0 0 = x0:=rfl
           rw [e2] at hr
           have HRES8:=A0_.mk hr
           have HPL:=A0_.mk (rowF_place HP.out hrow)
           have HFAR:=A0_.mk (row_far HRL7.out HAR.out)
           have HCK:=A0_.mk ck
           have HCX:=A0_.mk cx
           clear hB2 hrow HRES7 hr hxl HAR e2
           go_wp2_with (first|(go_at_call 76;refine HC.out.mono ?_;rintro e w1 ⟨v,rfl,hrr,hrd,hkr⟩;obtain ⟨g,cp,rfl,hgb,hcc⟩:=row_some hrr (Nat.lt_succ_self 0);have y0 : w1.cell? ⟨g,0,none⟩ = some (.int .i64 x0):=hcc 0 (Nat.lt_succ_self 0);have HRD1:=A0_.mk hrd;have HK1:=A0_.mk (HKR.out.trans hkr);have HAR1:=A0_.mk (hkr.row HFAR.out);clear hrr hgb hcc hrd hkr)|(at_builtin;refine Kd.R_append (Kd.int .i64) (w0:=w1) W7.heap.size rfl (.tmp 87) (.tmp 89) 22 3 (.int .i64 0) 8 rfl Tryz.underlying22 info3 rfl (by decide) (by decide) _ z x0 [.int .i64 x0] (fun k => True ∧ k ≠ R) (fun _ => False) rfl rfl rfl (fun _ h => h.elim) (fun k hk => ⟨trivial,by have:=HRL7.out;have:=HK1.out.kb.1;omega⟩) HAR1.out (Below.refl _ _) HK1.out.kb.1 (by have:=HAL.out;have:=HCK.out;have:=HM.out;omega) ?_;intro v3 w3 hr3 hb3 hg3 hat3;have HR3:=A0_.mk hr3;have HK3:=A0_.mk (HK1.out.grown hg3 (fun k e => Kd.R_base HAR1.out k e) (Nat.le_of_lt HRL7.out));have HRD3:=A0_.mk (HRD1.out.grown hg3 (fun e => by have:=Kd.R_base HAR1.out R e.symm;have:=HRL7.out;omega));clear hr3 hb3 hg3 hat3))
           go_roundg g1
           case measure => omega
           case rel => exact ⟨k + 1,z ++ [x0],q1,rfl,⟨by have:=HK.out;omega⟩,⟨by have:=HCK.out;omega⟩,⟨by rw [List.length_append,HAL.out];rfl⟩,⟨HPL.out.2⟩,HRES8,⟨fun y hy => by rcases List.mem_append.1 hy with hy|hy;exact HZR.out y hy;rw [List.mem_singleton.1 hy];exact ⟨HX0.out.1,by have:=HCX.out;omega⟩⟩,⟨Kd.R_mono HR3.out (fun _ _ => trivial)⟩,HRD3,HK3⟩
        ·have ckb : decide ((k : Int) < (m7 : Int)) = false:=decide_eq_false (by omega)
         have hr:=HRES7.out
         rw [show m7 - k = 0 by have:=HKN.out;omega,sizesF'] at hr
         simp only [appOk,List.append_nil,bZ] at hr
         have HRES8:=A0_.mk hr
         have HZL:=A0_.mk (show z.length ≤ 16384 by have:=HAL.out;have:=HKN.out;have:=HM.out;omega)
         have HBS8:=A0_.mk (HBS.out.kr_ HKR.out HRD.out)
         have HZ:=A0_.mk (Kd.R_lower HAR.out HBS.out.kr.kb.1)
         clear hr HRES7 HK HKN HAL HAR HRD HKR HBS cr
         go_wp2
         generalize wr = W8 at HBS8 HZ ⊢
         have hbs:=HBS8.out
         rw [HX.out,HVV.out] at hbs
         have HBS9:=A0_.mk (show BS w W8 R cb s pk { X with f6:=[] } { VV with v6:=.slice none 0 0 } by rw [HX.out,HVV.out];exact hbs)
         clear hbs HBS8
         (try simp only [Act.put,sA_,sB_,sC_])
         go_loopg [94] (z.length + 1) (fun kq v94 w' => ∃ (k : Nat) (jacc : List (List Int)) (pk : Nat) (v6 : Value),v94 = .int .i64 k ∧ A0_ (k + kq = z.length + 1) ∧ A0_ (k ≤ z.length) ∧ A0_ (jacc.length = k) ∧ A0_ (pk ≤ s.size) ∧ A0_ (bJ s m0 m4 m8 i acc o b c (appOk jacc (justF s (z.drop k) pk)) = res) ∧ A0_ (BS w w' R cb s pk { X with f6:=jacc } { VV with v6:=v6 }) ∧ A0_ (Kd.R (Kd.int .i64) 3 w' w.heap.size (fun _ => True) (.slice A8 z.length n8) z))
         case atStart => exact ⟨0,[],pk,_,rfl,⟨by omega⟩,⟨Nat.zero_le _⟩,⟨rfl⟩,HP,⟨by rw [appOk_nil,List.drop_zero];exact HRES8.out⟩,HBS9,HZ⟩
         case round =>
          clear HRES8 HBS9 HZ HP ck ckb
          obtain ⟨k,jacc,pk,v6,rfl,HK,HKN,HAL,HP,HRES,HBS,HZ⟩:=hrel
          obtain ⟨A6,n6,rfl⟩:=Kd.R_slice HBS.out.rows.r6
          by_cases ck : k < z.length
          ·obtain ⟨g1,rfl⟩ : ∃ g1,gk = g1 + 1:=by
            cases gk with
            |zero => have:=HK.out;omega
            |succ g1 => exact ⟨g1,rfl⟩
           have ckb : decide ((k : Int) < (z.length : Int)) = true:=decide_eq_true (by omega)
           have hw1 : IntKind.i64.wrap ((k : Int) + 1) = ((k + 1 : Nat) : Int):=by have:=HZL.out;rw [IntKind.wrap_i64];omega
           have p0 : (0 ≤ (k : Int)) = True:=eq_true (by omega)
           have p1 : ((k : Int) < (z.length : Int)) = True:=eq_true (by omega)
           obtain ⟨gz,cpz,he,_,hcz⟩:=row_some HZ.out (by omega)
           injection he with he1 he2 he3
           subst he1
           have cz:=hcz k ck
           have hdr : z.drop k = z.getD k 0 :: z.drop (k + 1):=by
            rw [List.drop_eq_getElem_cons ck]
            simp [List.getD_eq_getElem?_getD,List.getElem?_eq_getElem ck]
           have hzr:=HZR.out (z.getD k 0) (by rw [List.getD_eq_getElem?_getD,List.getElem?_eq_getElem ck];exact List.getElem_mem ck)
           obtain ⟨kz,hkz⟩ : ∃ kz : Nat,z.getD k 0 = (kz : Int):=⟨(z.getD k 0).toNat,by omega⟩
           have hr:=HRES.out
           rw [hdr,hkz] at hr
           rw [hkz] at hzr cz
           have HKZ:=A0_.mk (show kz ≤ 16384 by omega)
           have HRES9:=A0_.mk hr
           have HCK:=A0_.mk ck
           have HBSd:=A0_.mk (HBS.out.below (below_drew (Below.refl wr.heap.size wr)))
           have HZd:=A0_.mk (Kd.R_drew HZ.out)
           have eC6 : wr.cell? ⟨cb,6,none⟩ = some (.slice A6 jacc.length n6):=bC_ HBS.out.blk 6
           have HOL:=A0_.mk (R_lt HBS.out.rows.r6)
           clear he2 he3 hcz hdr hzr hkz hr HRES HBS HZ
           go_wp2
           refine wp_pan (BodyX w R res) bodyX_post ?_
           refine start_ (n:=9) (S:=fun w' => w'.cell? ⟨cb,6,none⟩ = some (.slice A6 jacc.length n6)) (ds:=[8]) #[false,false,false,false,false,false,false,false,false] (by kernel_rfl) rfl rfl eC6 (fun hHeld => ?_)
           refine pure_ (i:=0) (N:=some 98) (v:=?_) (a':=?_) #[true,false,false,false,false,false,false,false,false] rfl rfl (by kernel_rfl) hQ_pan (Or.inl ⟨by rfl,?_⟩) ?_ ?_
           rotate_left
           ·intro w'
            go_simp
            with_reducible rfl
           rotate_left
           ·simp only [Act.put,sA_,sB_,sC_]
            rfl
           refine take_ (i:=1) (N:=some 99) (v:=?_) (a':=?_) #[true,true,false,false,false,false,false,false,false] rfl rfl (by kernel_rfl) hQ_pan (Or.inl ⟨by rfl,?_⟩) hHeld ?_ ?_
           rotate_left
           ·intro w' s0
            have s0_:=s0
            go_simp
            with_reducible rfl
           rotate_left
           ·simp only [Act.put,sA_,sB_,sC_]
            rfl
           refine pure_ (i:=2) (N:=some 100) (v:=?_) (a':=?_) #[true,true,true,false,false,false,false,false,false] rfl rfl (by kernel_rfl) hQ_pan (Or.inl ⟨by rfl,?_⟩) ?_ ?_
           rotate_left
           ·intro w'
            go_simp
            with_reducible rfl
           rotate_left
           ·simp only [Act.put,sA_,sB_,sC_]
            rfl
           refine pure_ (i:=3) (N:=some 101) (v:=?_) (a':=?_) #[true,true,true,true,false,false,false,false,false] rfl rfl (by kernel_rfl) hQ_pan (Or.inl ⟨by rfl,?_⟩) ?_ ?_
           rotate_left
           ·intro w'
            go_simp
            with_reducible rfl
           rotate_left
           ·simp only [Act.put,sA_,sB_,sC_]
            rfl
           refine one_ (i:=4) (N:=some 102) #[true,true,true,true,true,false,false,false,false] rfl rfl (by kernel_rfl) (by decide) (fun K hK => ?_)
           refine goesP_ Tryz.func75 (by kernel_rfl) rfl #[.pointer (some ⟨R,0,none⟩),.int .i64 (kz : Int)] (by rfl) rfl rfl (by (try simp only [List.map_toArray,List.map_cons,List.map_nil]);first|done|rfl) ?_
           refine (list_calls (n:=kz) HG.out (HBSd.out.kr.base HB.out HR0.out) HR0.out HBSd.out.rd HP.out HS.out HKZ.out).mono ?_
           intro e W1 he
           cases hl9 : listF s kz pk with
           |error e0 =>
            rw [hl9] at he
            obtain ⟨rfl,hk⟩:=he
            have hres : res = .error e0:=by
             rw [← HRES9.out,justF,Int.toNat_natCast,hl9]
             rfl
            exact .inr ⟨_,rfl,pan_in rfl ⟨e0,rfl,hres,HBSd.out.kr.trans hk⟩⟩
           |ok xq =>
            obtain ⟨l,q1⟩:=xq
            rw [hl9] at he
            obtain ⟨v,rfl,hr,hrd,hkr⟩:=he
            obtain ⟨Al,nl,rfl⟩:=Kd.R_slice hr
            have hrr:=HRES9.out
            rw [justF_step (k:=(kz : Int)) (by rw [Int.toNat_natCast];exact hl9),appOk_app] at hrr
            have HRES10:=A0_.mk hrr
            have HPL:=A0_.mk (listF_place kz HP.out hl9)
            have HBSn:=A0_.mk (HBSd.out.kr_ hkr hrd)
            have HZn:=A0_.mk (KR.rows' hkr HZd.out HRL.out)
            have hM : (Kd.slice 3 (Kd.int .i64)).M W1 w.heap.size (fun k => wr.drew.heap.size ≤ k) l [.slice Al l.length nl]:=⟨_,rfl,Kd.R_lower (Kd.R_mono (Kd.R_bound hr) (fun k hk => hk.2.1)) HBSd.out.kr.kb.1⟩
            have HMM:=A0_.mk hM
            refine .inl ⟨_,rfl,hK.out _ _ (bC_ HBSn.out.blk 6) (fun hHeld2 => ?_)⟩
            clear hK K hrr hr hrd hkr hl9 hM
            refine norm_ (a':=?_) ?_ ?_
            rotate_left
            ·show Act.put _ (some 102) _ = _
             simp only [Act.put,sA_,sB_,sC_]
             rfl
            refine one_ (i:=5) (N:=some 103) #[true,true,true,true,true,true,false,false,false] rfl rfl (by kernel_rfl) (by decide) (fun K hK => ?_)
            refine value_ (v:=.slice (some ⟨W1.heap.size,0,none⟩) 1 1) (w1:=W1.alloc (.cells #[.slice Al l.length nl] 22)) rfl rfl ?_ ?_
            ·go_simp
            refine hK.out _ _ (bC_ (bA_ HBSn.out.blk _) 6) (fun hHeld3 => ?_)
            clear hK K
            refine norm_ (a':=?_) ?_ ?_
            rotate_left
            ·show Act.put _ (some 103) _ = _
             simp only [Act.put,sA_,sB_,sC_]
             rfl
            refine one_ (i:=6) (N:=some 104) #[true,true,true,true,true,true,true,false,false] rfl rfl (by kernel_rfl) (by decide) (fun K hK => ?_)
            refine Kd.R_append_step (Kd.slice 3 (Kd.int .i64)) (w0:=W1) (W:=W1) w.heap.size (by rfl) (.tmp 99) (.tmp 103) 24 22 (.slice none 0 0) 24 rfl Tryz.underlying24 info47 rfl (by decide) (by decide) (.slice A6 jacc.length n6) jacc l [.slice Al l.length nl] (fun _ => True) (fun k => wr.drew.heap.size ≤ k) rfl rfl HMM.out (fun k hk => ⟨trivial,fun e => by have h1 : k < wr.heap.size:=HOL.out k e.symm;have h2 : wr.heap.size ≤ k:=hk;omega⟩) (fun _ _ => trivial) HBSn.out.rows.r6 (Below.refl _ _) HBSn.out.kr.kb.1 (by have:=HAL.out;have:=HCK.out;have:=HZL.out;omega) ?_
            intro v3 w3 hr3 hb3 hg3 hat3
            obtain ⟨A3,n3,rfl⟩:=Kd.R_slice hr3
            have hcb:=HBSn.out.cb6 hg3
            have HBSm:=A0_.mk (HBSn.out.grow6 hg3 hr3)
            have HZm:=A0_.mk (Kd.R_set (Kd.R_over' HZn.out (Kd.R_typed HBSn.out.rows.r6) (by decide) hg3) hcb (by decide) 6 (.slice A3 (jacc ++ [l]).length n3))
            refine hK.out _ _ (bC_ hcb 6) (fun hHeld4 => ?_)
            clear hK K hr3 hb3 hg3 hat3
            refine norm_ (a':=?_) ?_ ?_
            rotate_left
            ·show Act.put _ (some 104) _ = _
             simp only [Act.put,sA_,sB_,sC_]
             rfl
            refine pure_ (i:=7) (N:=some 105) (v:=?_) (a':=?_) #[true,true,true,true,true,true,true,true,false] rfl rfl (by kernel_rfl) hQ_pan (Or.inl ⟨by rfl,?_⟩) ?_ ?_
            rotate_left
            ·intro w'
             go_simp
             with_reducible rfl
            rotate_left
            ·simp only [Act.put,sA_,sB_,sC_]
             rfl
            have e6 : w3.cell? ⟨cb,6,none⟩ = some (.slice A6 jacc.length n6):=bC_ hcb 6
            have g6:=bF_ hcb 6
            refine last_ (i:=8) (N:=none) #[true,true,true,true,true,true,true,true,true] rfl rfl (by kernel_rfl) (by decide) (fun K hK => ?_)
            refine skip_ (w1:=w3.setCell ⟨cb,6,none⟩ (.slice A3 (jacc ++ [l]).length n3)) rfl rfl ?_ ?_
            ·go_simp
            refine hK.out _ _ ?_
            clear hK K
            refine done_ (by kernel_rfl) ?_
            refine pan_on ?_
            clear e6 g6 hcb hHeld hHeld2 hHeld3 hHeld4 eC6 HMM HBSn HZn HBSd HZd
            generalize w3.setCell ⟨cb,6,none⟩ (.slice A3 (jacc ++ [l]).length n3) = w9 at HBSm HZm ⊢
            rename_i hKK
            refine hKK _ _ ?_
            clear hKK
            go_wp2
            go_roundg g1
            case measure => omega
            case rel => exact ⟨k + 1,jacc ++ [l],q1,_,rfl,⟨by have:=HK.out;omega⟩,⟨by have:=HCK.out;omega⟩,⟨by rw [List.length_append,HAL.out];rfl⟩,HPL,HRES10,HBSm,HZm⟩
          ·have ckb : decide ((k : Int) < (z.length : Int)) = false:=decide_eq_false (by omega)
           have hr:=HRES.out
           rw [show z.drop k = [] from List.drop_eq_nil_of_le (by omega),justF] at hr
           simp only [appOk,List.append_nil,bJ] at hr
           have HRES9:=A0_.mk hr
           clear hr HRES HK HKN HAL HZ
           have c8:=cell_kr HBS.out.kr HGN.out HGR.out HC8.out
           have HBB:=A0_.mk (HBS.out.kr.base HB.out HR0.out)
           cases hl10 : listF s m8 pk with
           |error e0 =>
            have hC : Calls Tryz.prog 75 #[.pointer (some ⟨R,0,none⟩),.int .i64 (m8 : Int)] wr (fun e w' => e = .panicked [{ v:=.iface 32 (faultV e0 42),recovered:=false }] ∧ KR wr w' R) :=
             (list_calls (n:=m8) HG.out HBB.out HR0.out HBS.out.rd HP.out HS.out HM.out.2.2.2.2.2.2.2).mono (fun e w' h => by rw [hl10] at h;exact h)
            have HC:=A0_.mk hC
            have hres : res = .error e0:=by
             rw [← HRES9.out,hl10]
             rfl
            have HR:=A0_.mk hres
            clear hC hres hl10
            go_wp2_with (go_at_call 75;refine HC.out.mono ?_;rintro e w1 ⟨rfl,hb⟩)
            exact ⟨rfl,body_thrown HR.out (HBS.out.kr.trans hb)⟩
           |ok xq =>
            obtain ⟨f,q10⟩:=xq
            have hC : Calls Tryz.prog 75 #[.pointer (some ⟨R,0,none⟩),.int .i64 (m8 : Int)] wr (fun e w' => ∃ v,e = .returned v ∧ Kd.R (Kd.int .i64) 3 w' wr.heap.size (fun _ => True) v f ∧ RD w' R s q10 ∧ KR wr w' R) :=
             (list_calls (n:=m8) HG.out HBB.out HR0.out HBS.out.rd HP.out HS.out HM.out.2.2.2.2.2.2.2).mono (fun e w' h => by rw [hl10] at h;exact h)
            have HC:=A0_.mk hC
            have hr:=HRES9.out
            rw [hl10] at hr
            simp only [bF] at hr
            have HRES10:=A0_.mk hr
            have HQ:=A0_.mk (listF_place m8 HP.out hl10)
            clear hC hr hl10 HRES9 HP
            go_upto_region 26 with (first|(go_at_call 75;refine HC.out.mono ?_;rintro e w1 ⟨v,rfl,hr,hrd,hkr⟩;obtain ⟨A7,n7,rfl⟩:=Kd.R_slice hr;have HBS1:=A0_.mk (HBS.out.kr_ hkr hrd);have HR7:=A0_.mk (Kd.R_lower hr HBS.out.kr.kb.1);have e7 : w1.cell? ⟨cb,7,none⟩ = some VV.v7:=bC_ HBS1.out.blk 7;have g7:=bF_ HBS1.out.blk 7;clear hr hrd hkr))
            have hbs:=HBS1.out.put7 HR7.out
            clear e7 g7 c8 HBS HBS1 HR7 HC HBB
            generalize w1.setCell ⟨cb,7,none⟩ (.slice A7 f.length n7) = W10 at hbs ⊢
            obtain ⟨X2,hX2⟩ : ∃ X2 : S65,X2 = ⟨m0,i,acc,o,b,c,jacc,f,[],[],[]⟩:=⟨_,rfl⟩
            obtain ⟨V2,hV2⟩ : ∃ V2 : VS,V2 = ⟨.slice A1 i.length k1,.slice A2 acc.length k2,.slice A13 o.length n13,.slice A14 b.length n14,.slice A15 c.length n15,.slice A6 jacc.length n6,.slice A7 f.length n7,.slice none 0 0,.slice none 0 0,.slice none 0 0⟩:=⟨_,rfl⟩
            rw [HX.out,HVV.out] at hbs
            dsimp only at hbs
            rw [← hX2,← hV2] at hbs
            have HX2:=A0_.mk hX2
            have HV2:=A0_.mk hV2
            have HBS9:=A0_.mk (show BS w W10 R cb s q10 { X2 with f8:=[] } { V2 with v8:=.slice none 0 0 } by rw [hX2,hV2];rw [hX2,hV2] at hbs;exact hbs)
            have c4:=cell_kr HBS9.out.kr HGN.out HGR.out HC4.out
            clear hbs hX2 hV2
            go_wp2
            (try simp only [Act.put,sA_,sB_,sC_])
            go_loopg [116] (m4 + 1) (fun kq v116 w' => ∃ (k : Nat) (aacc : List S125) (pk : Nat) (v8 : Value),v116 = .int .i64 k ∧ A0_ (k + kq = m4 + 1) ∧ A0_ (k ≤ m4) ∧ A0_ (aacc.length = k) ∧ A0_ (pk ≤ s.size) ∧ A0_ (bA m0 i acc o b c jacc f (appOk aacc (andsF s (m4 - k) pk)) = res) ∧ A0_ (BS w w' R cb s pk { X2 with f8:=aacc } { V2 with v8:=v8 }))
            case atStart => exact ⟨0,[],q10,_,rfl,⟨by omega⟩,⟨Nat.zero_le _⟩,⟨rfl⟩,HQ,⟨by rw [appOk_nil];exact HRES10.out⟩,HBS9⟩
            case round =>
             clear HRES10 HBS9 HQ c4 ck ckb
             obtain ⟨k,aacc,pk,v8,rfl,HK,HKN,HAL,HP,HRES,HBS⟩:=hrel
             obtain ⟨A8',k8,rfl⟩:=Kd.R_slice HBS.out.rows.r8
             by_cases ck : k < m4
             ·obtain ⟨g1,rfl⟩ : ∃ g1,gk = g1 + 1:=by
               cases gk with
               |zero => have:=HK.out;omega
               |succ g1 => exact ⟨g1,rfl⟩
              have ckb : decide ((k : Int) < (m4 : Int)) = true:=decide_eq_true (by omega)
              have hw1 : IntKind.i64.wrap ((k : Int) + 1) = ((k + 1 : Nat) : Int):=by have:=HM.out;rw [IntKind.wrap_i64];omega
              have hB2 : Below w0.heap.size w0 wr:=HBS.out.kr.base HB.out HR0.out
              cases hrow : rowF s pk 3 3 with
              |none =>
               have HC:=A0_.mk (row_no' (least:=3) (most:=3) 3 3 rfl rfl HG.out hB2 HR0.out HBS.out.rd HP.out HS.out (by omega) hrow)
               have hr : res = .error pk:=by
                rw [← HRES.out,show m4 - k = (m4 - (k + 1)) + 1 by omega,andsF,hrow]
                rfl
               have HR:=A0_.mk hr
               clear hB2 hrow hr
               go_wp2_with (go_at_call 76;refine HC.out.mono ?_;rintro e w1 ⟨rfl,hb⟩)
               exact ⟨rfl,body_thrown HR.out (HBS.out.kr.trans hb)⟩
              |some xq =>
               obtain ⟨x,q1⟩:=xq
               have HRW:=A0_.mk (row_yes' (least:=3) (most:=3) 3 3 rfl rfl HG.out hB2 HR0.out HBS.out.rd HP.out HS.out (by omega) hrow)
               have hxl:=rowF_len hrow
               have hr:=HRES.out
               rw [show m4 - k = (m4 - (k + 1)) + 1 by omega,andsF_step hrow,appOk_app] at hr
               have HRES2:=A0_.mk hr
               have HPL:=A0_.mk (rowF_place HP.out hrow)
               have HCK:=A0_.mk ck
               clear hB2 hrow HRES hr
               obtain ⟨xa,xb,xc,rfl⟩ : ∃ a b c,x = [a,b,c]:=three_of hxl
               go_upto_region 29 with (first|(go_at_call 76;refine HRW.out.mono ?_;rintro e w1 ⟨v,rfl,hrr,hrd,hkr⟩;obtain ⟨g,cp,rfl,hgb,hcc⟩:=row_some hrr (Nat.succ_pos _);have HBS1:=A0_.mk (HBS.out.kr_ hkr hrd);have y0 : w1.cell? ⟨g,0,none⟩ = some (.int .i64 xa):=hcc 0 (Nat.succ_pos _);have y1 : w1.cell? ⟨g,1,none⟩ = some (.int .i64 xb):=hcc 1 (Nat.succ_lt_succ (Nat.succ_pos _));have y2 : w1.cell? ⟨g,2,none⟩ = some (.int .i64 xc):=hcc 2 (Nat.lt_succ_self 2);clear hrr hgb hcc hrd hkr))
               have HBSn:=A0_.mk (HBS1.out.below (below_drew (Below.refl w1.heap.size w1)))
               have e8 : w1.cell? ⟨cb,8,none⟩ = some (.slice A8' aacc.length k8):=bC_ HBS1.out.blk 8
               clear HBS HBS1
               refine wp_normal' ?_
               refine start_ (n:=16) (S:=fun w' => w'.cell? ⟨cb,8,none⟩ = some (.slice A8' aacc.length k8) ∧ w'.cell? ⟨g,0,none⟩ = some (.int .i64 xa) ∧ w'.cell? ⟨g,1,none⟩ = some (.int .i64 xb) ∧ w'.cell? ⟨g,2,none⟩ = some (.int .i64 xc)) (ds:=[13,15]) #[false,false,false,false,false,false,false,false,false,false,false,false,false,false,false,false] (by kernel_rfl) rfl rfl ⟨e8,y0,y1,y2⟩ (fun hHeld => ?_)
               refine pure_ (i:=0) (N:=some 120) (v:=?_) (a':=?_) #[true,false,false,false,false,false,false,false,false,false,false,false,false,false,false,false] rfl rfl (by kernel_rfl) (fun _ _ _ h => by cases h.1) (Or.inl ⟨by rfl,?_⟩) ?_ ?_
               rotate_left
               ·intro w'
                go_simp
                with_reducible rfl
               rotate_left
               ·simp only [Act.put,sA_,sB_,sC_]
                rfl
               refine take_ (i:=1) (N:=some 121) (v:=?_) (a':=?_) #[true,true,false,false,false,false,false,false,false,false,false,false,false,false,false,false] rfl rfl (by kernel_rfl) (fun _ _ _ h => by cases h.1) (Or.inl ⟨by rfl,?_⟩) hHeld ?_ ?_
               rotate_left
               ·intro w' s0
                obtain ⟨s0_,s1_,s2_,s3_⟩:=s0
                go_simp
                with_reducible rfl
               rotate_left
               ·simp only [Act.put,sA_,sB_,sC_]
                rfl
               refine pure_ (i:=2) (N:=some 122) (v:=?_) (a':=?_) #[true,true,true,false,false,false,false,false,false,false,false,false,false,false,false,false] rfl rfl (by kernel_rfl) (fun _ _ _ h => by cases h.1) (Or.inl ⟨by rfl,?_⟩) ?_ ?_
               rotate_left
               ·intro w'
                go_simp
                with_reducible rfl
               rotate_left
               ·simp only [Act.put,sA_,sB_,sC_]
                rfl
               refine pure_ (i:=3) (N:=some 123) (v:=?_) (a':=?_) #[true,true,true,true,false,false,false,false,false,false,false,false,false,false,false,false] rfl rfl (by kernel_rfl) (fun _ _ _ h => by cases h.1) (Or.inl ⟨by rfl,?_⟩) ?_ ?_
               rotate_left
               ·intro w'
                go_simp
                with_reducible rfl
               rotate_left
               ·simp only [Act.put,sA_,sB_,sC_]
                rfl
               refine take_ (i:=4) (N:=some 124) (v:=?_) (a':=?_) #[true,true,true,true,true,false,false,false,false,false,false,false,false,false,false,false] rfl rfl (by kernel_rfl) (fun _ _ _ h => by cases h.1) (Or.inl ⟨by rfl,?_⟩) hHeld ?_ ?_
               rotate_left
               ·intro w' s0
                obtain ⟨s0_,s1_,s2_,s3_⟩:=s0
                go_simp
                with_reducible rfl
               rotate_left
               ·simp only [Act.put,sA_,sB_,sC_]
                rfl
               refine pure_ (i:=5) (N:=some 125) (v:=?_) (a':=?_) #[true,true,true,true,true,true,false,false,false,false,false,false,false,false,false,false] rfl rfl (by kernel_rfl) (fun _ _ _ h => by cases h.1) (Or.inl ⟨by rfl,?_⟩) ?_ ?_
               rotate_left
               ·intro w'
                go_simp
                with_reducible rfl
               rotate_left
               ·simp only [Act.put,sA_,sB_,sC_]
                rfl
               refine pure_ (i:=6) (N:=some 126) (v:=?_) (a':=?_) #[true,true,true,true,true,true,true,false,false,false,false,false,false,false,false,false] rfl rfl (by kernel_rfl) (fun _ _ _ h => by cases h.1) (Or.inl ⟨by rfl,?_⟩) ?_ ?_
               rotate_left
               ·intro w'
                go_simp
                with_reducible rfl
               rotate_left
               ·simp only [Act.put,sA_,sB_,sC_]
                rfl
               refine take_ (i:=7) (N:=some 127) (v:=?_) (a':=?_) #[true,true,true,true,true,true,true,true,false,false,false,false,false,false,false,false] rfl rfl (by kernel_rfl) (fun _ _ _ h => by cases h.1) (Or.inl ⟨by rfl,?_⟩) hHeld ?_ ?_
               rotate_left
               ·intro w' s0
                obtain ⟨s0_,s1_,s2_,s3_⟩:=s0
                go_simp
                with_reducible rfl
               rotate_left
               ·simp only [Act.put,sA_,sB_,sC_]
                rfl
               refine pure_ (i:=8) (N:=some 128) (v:=?_) (a':=?_) #[true,true,true,true,true,true,true,true,true,false,false,false,false,false,false,false] rfl rfl (by kernel_rfl) (fun _ _ _ h => by cases h.1) (Or.inl ⟨by rfl,?_⟩) ?_ ?_
               rotate_left
               ·intro w'
                go_simp
                with_reducible rfl
               rotate_left
               ·simp only [Act.put,sA_,sB_,sC_]
                rfl
               refine pure_ (i:=9) (N:=some 129) (v:=?_) (a':=?_) #[true,true,true,true,true,true,true,true,true,true,false,false,false,false,false,false] rfl rfl (by kernel_rfl) (fun _ _ _ h => by cases h.1) (Or.inl ⟨by rfl,?_⟩) ?_ ?_
               rotate_left
               ·intro w'
                go_simp
                with_reducible rfl
               rotate_left
               ·simp only [Act.put,sA_,sB_,sC_]
                rfl
               refine take_ (i:=10) (N:=some 130) (v:=?_) (a':=?_) #[true,true,true,true,true,true,true,true,true,true,true,false,false,false,false,false] rfl rfl (by kernel_rfl) (fun _ _ _ h => by cases h.1) (Or.inl ⟨by rfl,?_⟩) hHeld ?_ ?_
               rotate_left
               ·intro w' s0
                obtain ⟨s0_,s1_,s2_,s3_⟩:=s0
                go_simp
                with_reducible rfl
               rotate_left
               ·simp only [Act.put,sA_,sB_,sC_]
                rfl
               refine pure_ (i:=11) (N:=some 131) (v:=?_) (a':=?_) #[true,true,true,true,true,true,true,true,true,true,true,true,false,false,false,false] rfl rfl (by kernel_rfl) (fun _ _ _ h => by cases h.1) (Or.inl ⟨by rfl,?_⟩) ?_ ?_
               rotate_left
               ·intro w'
                go_simp
                with_reducible rfl
               rotate_left
               ·simp only [Act.put,sA_,sB_,sC_]
                rfl
               refine one_ (i:=12) (N:=some 132) #[true,true,true,true,true,true,true,true,true,true,true,true,true,false,false,false] rfl rfl (by kernel_rfl) (by decide) (fun K hK => ?_)
               refine value_ (v:=.slice (some ⟨w1.drew.heap.size,0,none⟩) 1 1) (w1:=w1.drew.alloc (.cells #[.int .i64 xa,.int .i64 xb,.int .i64 xc] 75)) rfl rfl ?_ ?_
               ·go_simp
               have hba : Below w1.drew.heap.size w1.drew (w1.drew.alloc (.cells #[.int .i64 xa,.int .i64 xb,.int .i64 xc] 75)):=eA_ (Below.refl _ _) _
               refine hK.out _ _ ⟨pw_cell_below hba hHeld.1,pw_cell_below hba hHeld.2.1,pw_cell_below hba hHeld.2.2.1,pw_cell_below hba hHeld.2.2.2⟩ (fun hHeld2 => ?_)
               clear hK K hba
               refine norm_ (a':=?_) ?_ ?_
               rotate_left
               ·show Act.put _ (some 132) _ = _
                simp only [Act.put,sA_,sB_,sC_]
                rfl
               refine last_ (i:=13) (N:=some 133) #[true,true,true,true,true,true,true,true,true,true,true,true,true,true,false,false] rfl rfl (by kernel_rfl) (by decide) (fun K hK => ?_)
               refine Kd.R_append_step k125 (w0:=w1.drew) (W:=w1.drew) w.heap.size (by rfl) (.tmp 121) (.tmp 132) 25 75 (.agg #[(.int .i64 0),(.int .i64 0),(.int .i64 0)]) 24 rfl Tryz.underlying25 info125 rfl (by decide) (by decide) (.slice A8' aacc.length k8) aacc (andOf [xa,xb,xc]) [.int .i64 xa,.int .i64 xb,.int .i64 xc] (fun _ => True) (fun _ => False) rfl rfl (k125_mkM _ _ _ (andOf [xa,xb,xc])) (fun _ h => h.elim) (fun _ _ => trivial) HBSn.out.rows.r8 (Below.refl _ _) HBSn.out.kr.kb.1 (by have:=HAL.out;have:=HCK.out;have:=HM.out;omega) ?_
               intro v3 w3 hr3 hb3 hg3 hat3
               obtain ⟨A3,n3,rfl⟩:=Kd.R_slice hr3
               have hcb:=HBSn.out.cb8 hg3
               have HBSm:=A0_.mk (HBSn.out.grow8 hg3 hr3)
               refine hK.out _ _ ?_
               clear hK K hr3 hb3 hg3 hat3
               refine norm_ (a':=?_) ?_ ?_
               rotate_left
               ·show Act.put _ (some 133) _ = _
                simp only [Act.put,sA_,sB_,sC_]
                rfl
               refine pure_ (i:=14) (N:=some 134) (v:=?_) (a':=?_) #[true,true,true,true,true,true,true,true,true,true,true,true,true,true,true,false] rfl rfl (by kernel_rfl) (fun _ _ _ h => by cases h.1) (Or.inl ⟨by rfl,?_⟩) ?_ ?_
               rotate_left
               ·intro w'
                go_simp
                with_reducible rfl
               rotate_left
               ·simp only [Act.put,sA_,sB_,sC_]
                rfl
               have e8' : w3.cell? ⟨cb,8,none⟩ = some (.slice A8' aacc.length k8):=bC_ hcb 8
               have g8':=bF_ hcb 8
               refine last_ (i:=15) (N:=none) #[true,true,true,true,true,true,true,true,true,true,true,true,true,true,true,true] rfl rfl (by kernel_rfl) (by decide) (fun K hK => ?_)
               refine skip_ (w1:=w3.setCell ⟨cb,8,none⟩ (.slice A3 (aacc ++ [andOf [xa,xb,xc]]).length n3)) rfl rfl ?_ ?_
               ·go_simp
               refine hK.out _ _ ?_
               clear hK K
               refine done_ (by kernel_rfl) ?_
               refine ⟨rfl,?_⟩
               clear e8 e8' g8' hcb hHeld hHeld2 HBSn y0 y1 y2
               generalize w3.setCell ⟨cb,8,none⟩ (.slice A3 (aacc ++ [andOf [xa,xb,xc]]).length n3) = w9 at HBSm ⊢
               rename_i hKK
               refine hKK _ _ ?_
               clear hKK
               go_wp2
               go_roundg g1
               case measure => omega
               case rel => exact ⟨k + 1,aacc ++ [andOf [xa,xb,xc]],q1,_,rfl,⟨by have:=HK.out;omega⟩,⟨by have:=HCK.out;omega⟩,⟨by rw [List.length_append,HAL.out];rfl⟩,⟨HPL.out.2⟩,HRES2,HBSm⟩
             ·have ckb : decide ((k : Int) < (m4 : Int)) = false:=decide_eq_false (by omega)
              have hr:=HRES.out
              rw [show m4 - k = 0 by have:=HKN.out;omega,andsF] at hr
              simp only [appOk,List.append_nil,bA] at hr
              have HRES2:=A0_.mk hr
              clear hr HRES HK HKN HAL
              have hbs:=HBS.out
              have hX2:=HX2.out
              have hV2:=HV2.out
              subst hX2
              subst hV2
              dsimp only at hbs
              have hcb:=hbs.blk
              have hre:=hbs.res
              have e0 : wr.cell? ⟨cb,0,none⟩ = some (.int .i64 (m0 : Int)):=bC_ hcb 0
              have e1 : wr.cell? ⟨cb,1,none⟩ = some (.slice A1 i.length k1):=bC_ hcb 1
              have e2 : wr.cell? ⟨cb,2,none⟩ = some (.slice A2 acc.length k2):=bC_ hcb 2
              have e3 : wr.cell? ⟨cb,3,none⟩ = some (.slice A13 o.length n13):=bC_ hcb 3
              have e4 : wr.cell? ⟨cb,4,none⟩ = some (.slice A14 b.length n14):=bC_ hcb 4
              have e5 : wr.cell? ⟨cb,5,none⟩ = some (.slice A15 c.length n15):=bC_ hcb 5
              have e6 : wr.cell? ⟨cb,6,none⟩ = some (.slice A6 jacc.length n6):=bC_ hcb 6
              have e7 : wr.cell? ⟨cb,7,none⟩ = some (.slice A7 f.length n7):=bC_ hcb 7
              have e8 : wr.cell? ⟨cb,8,none⟩ = some (.slice A8' aacc.length k8):=bC_ hcb 8
              have e9 : wr.cell? ⟨cb,9,none⟩ = some (.slice none 0 0):=bC_ hcb 9
              have e10 : wr.cell? ⟨cb,10,none⟩ = some (.slice none 0 0):=bC_ hcb 10
              have d0 : wr.cell? ⟨w.heap.size,0,none⟩ = some (.int .i64 0):=bC_ hre 0
              have q0:=bF_ hre 0
              have d1 : wr.cell? ⟨w.heap.size,1,none⟩ = some (.slice none 0 0):=bC_ hre 1
              have q1:=bF_ hre 1
              have d2 : wr.cell? ⟨w.heap.size,2,none⟩ = some (.slice none 0 0):=bC_ hre 2
              have q2:=bF_ hre 2
              have d3 : wr.cell? ⟨w.heap.size,3,none⟩ = some (.slice none 0 0):=bC_ hre 3
              have q3:=bF_ hre 3
              have d4 : wr.cell? ⟨w.heap.size,4,none⟩ = some (.slice none 0 0):=bC_ hre 4
              have q4:=bF_ hre 4
              have d5 : wr.cell? ⟨w.heap.size,5,none⟩ = some (.slice none 0 0):=bC_ hre 5
              have q5:=bF_ hre 5
              have d6 : wr.cell? ⟨w.heap.size,6,none⟩ = some (.slice none 0 0):=bC_ hre 6
              have q6:=bF_ hre 6
              have d7 : wr.cell? ⟨w.heap.size,7,none⟩ = some (.slice none 0 0):=bC_ hre 7
              have q7:=bF_ hre 7
              have d8 : wr.cell? ⟨w.heap.size,8,none⟩ = some (.slice none 0 0):=bC_ hre 8
              have q8:=bF_ hre 8
              have d9 : wr.cell? ⟨w.heap.size,9,none⟩ = some (.slice none 0 0):=bC_ hre 9
              have q9:=bF_ hre 9
              have d10 : wr.cell? ⟨w.heap.size,10,none⟩ = some (.slice none 0 0):=bC_ hre 10
              have q10:=bF_ hre 10
              have hfin:=fun (tm : Array Value) (h4 : tm.getD 4 undef = .pointer (some ⟨w.heap.size,0,none⟩)) => body_fin (tm:=tm) hbs h4
              dsimp only at hfin
              rw [HRES2.out] at hfin
              have HFIN:=A0_.mk hfin
              clear hbs hcb hre hfin HBS
              go_wp2
              exact HFIN.out _ rfl
end Go.Proofs.YtdmngdohlobogaaGreatDoor.Asc

