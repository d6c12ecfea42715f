import Derived.Test.YtdmngdohlobogaaGreatDoorYBReadM
namespace Go.Proofs.YtdmngdohlobogaaGreatDoor.Asc
open Go Go.RowKit Go.Proofs.YtdmngdohlobogaaGreatDoorW.PrintWords Go.Proofs.YtdmngdohlobogaaGreatDoorW.PrintLast Go.Proofs.YtdmngdohlobogaaGreatDoorW.PrintMore
set_option linter.unusedVariables false
set_option linter.unusedSimpArgs false
structure BR0 (w W : World) (g n1 gT cb : Nat) (ms : List Int) (m0 : Nat) (v1 : Value) (acc : List Int) : Prop where
 rs : RdS w W x0S nilVS 0 0
 nr : Kd.R (Kd.int .i64) 3 W w.heap.size (fun _ => True) (.slice (some ⟨g,0,none⟩) 9 n1) ms
 tb : W.heap[gT]? = some (.cells #[.int .i64 0,.int .i64 0] 32 (0,0))
 blk : W.heap[cb]? = some (.cells #[.int .i64 (m0 : Int),v1,.slice none 0 0,.slice none 0 0,.slice none 0 0,.slice none 0 0,.slice none 0 0,.slice none 0 0,.slice none 0 0,.slice none 0 0,.slice none 0 0] 29 (0,0))
 row : Kd.R (Kd.int .i64) 3 W w.heap.size (fun k => k ≠ g) v1 acc
 o1 : w.heap.size + 1 < gT
 o2 : gT < cb
theorem ownI_ne {W : World} {base b t : Nat} {ok : Nat → Prop} {v : Value} {cs : Array Value} {xs : List Int} (hr : Kd.R (Kd.int .i64) 3 W base ok v xs) (hb : W.heap[b]? = some (.cells cs t (0,0))) (ht : 3 ≠ t) : some b ≠ v.ownBlock:=by
 intro e
 obtain ⟨cells,hc⟩:=Kd.R_typed hr b e.symm
 exact blk_ne hc hb ht rfl
theorem BR0.below {w W V : World} {g n1 gT cb m0 : Nat} {ms acc : List Int} {v1 : Value} (h : BR0 w W g n1 gT cb ms m0 v1 acc) (hb : Below W.heap.size W V) : BR0 w V g n1 gT cb ms m0 v1 acc :=
 ⟨h.rs.below hb,Kd.R_below h.nr hb,keep_below h.tb hb,keep_below h.blk hb,Kd.R_below h.row hb,h.o1,h.o2⟩
theorem BR0.app {w W V : World} {g n1 gT cb m0 : Nat} {ms acc acc' : List Int} {v1 v' : Value} (h : BR0 w W g n1 gT cb ms m0 v1 acc) (hr : Kd.R (Kd.int .i64) 3 V w.heap.size (fun k => k ≠ g) v' acc') (hb : Below w.heap.size w V) (hg : W.grownBy V v1.ownBlock) : BR0 w (V.setCell ⟨cb,1,none⟩ v') g n1 gT cb ms m0 v' acc':=by
 have h1:=h.o1
 have h2:=h.o2
 have hB:=blk_grown h.blk hg (ownI_ne h.row h.blk (by decide))
 have hR : RdS w V x0S nilVS 0 0:=⟨blk_grown h.rs.C hg (ownI_ne h.row h.rs.C (by decide)),blk_grown h.rs.F hg (ownI_ne h.row h.rs.F (by decide)),rows_nil _ _,hb⟩
 have hN : Kd.R (Kd.int .i64) 3 V w.heap.size (fun _ => True) (.slice (some ⟨g,0,none⟩) 9 n1) ms:=Kd.R_grown1 h.nr rfl hg (fun e => h.row.1 g e rfl)
 exact ⟨hR.other hB (rows_nil _ _) (by omega),Kd.R_set hN hB (by decide) 1 v',blk_far (blk_grown h.tb hg (ownI_ne h.row h.tb (by decide))) (p:=⟨cb,1,none⟩) (by show gT ≠ cb;omega) _,blk_set hB 1 v',Kd.R_set hr hB (by decide) 1 v',h1,h2⟩
theorem inputsB_succ (k : Nat) : inputsB (k + 1) = inputsB k ++ [2 * ((k : Int) + 1)]:=by simp [inputsB,List.range_succ]
theorem inputsB_len (k : Nat) : (inputsB k).length = k:=by simp [inputsB]
theorem gatesB_place {s : ByteArray} : ∀ (n a p : Nat) {l : List S125} {q : Nat},p ≤ s.size → gatesB s a n p = .ok (l,q) → q ≤ s.size
 |0,a,p,l,q,hp,h => by
  rw [gatesB] at h
  injection h with h
  injection h with h1 h2
  omega
 |n + 1,a,p,l,q,hp,h => by
  rw [gatesB] at h
  split at h
  ·cases h
  ·split at h
   ·cases h
   ·split at h
    ·cases h
    ·rename_i hg
     split at h
     ·cases h
     ·split at h
      ·cases h
      ·rename_i hl
       injection h with h
       injection h with h1 h2
       have:=gatesB_place n (a + 1) _ (getW_le hg).2.1 hl
       omega
theorem gatesAny {w : World} {R a0 n p : Nat} {s : ByteArray} (h : SD w R s p (-1)) (hp : p ≤ s.size) (hs : s.size ≤ 262144) (hn : n ≤ 16384) (ha : a0 ≤ 32768) :
  Calls Tryz.prog 22 #[.pointer (some ⟨R,0,none⟩),.int .i64 (a0 : Int),.int .i64 (n : Int)] w (RowEnd k125 75 w R s (gatesB s a0 n p)):=by
 refine (gatesB_calls h hp hs hn ha).mono ?_
 intro e w' he
 cases hl : gatesB s a0 n p with
 |error x =>
  rw [hl] at he
  obtain ⟨v,l,q,rfl,hr,hsd,hkr⟩:=he
  exact ⟨_,_,rfl,hr,⟨q,hsd⟩,hkr,fun _ _ h => by cases h⟩
 |ok lq =>
  obtain ⟨l,q⟩:=lq
  rw [hl] at he
  obtain ⟨v,rfl,hr,hsd,hkr⟩:=he
  exact ⟨_,_,rfl,hr,⟨hsd,gatesB_place _ _ _ hp hl⟩,hkr,fun _ _ h => by injection h with h;injection h⟩
structure BRT (w W : World) (gT cb : Nat) (ta tc : Int) (x : S65) (v : VS) : Prop where
 rs : RdS w W x0S nilVS 0 0
 tb : W.heap[gT]? = some (.cells #[.int .i64 ta,.int .i64 tc] 32 (0,0))
 blk : W.heap[cb]? = some (.cells (cellsV x.f0 v) 29 (0,0))
 rows : CRows W w.heap.size x v
 o1 : w.heap.size + 1 < gT
 o2 : gT < cb
theorem BRT.below {w W V : World} {gT cb : Nat} {ta tc : Int} {x : S65} {v : VS} (h : BRT w W gT cb ta tc x v) (hb : Below W.heap.size W V) : BRT w V gT cb ta tc x v :=
 ⟨h.rs.below hb,keep_below h.tb hb,keep_below h.blk hb,h.rows.below hb,h.o1,h.o2⟩
theorem BR.setT {w W : World} {g n1 gT cb R : Nat} {ms : List Int} {s : ByteArray} {st : Except Nat Nat} {x : S65} {v : VS} (h : BR w W g n1 gT cb R ms s st x v) (ta tc : Int) : BRT w ((W.setCell ⟨gT,0,none⟩ (.int .i64 ta)).setCell ⟨gT,1,none⟩ (.int .i64 tc)) gT cb ta tc x v:=by
 have h1:=h.o1
 have h2:=h.o2
 have hb:=blk_set h.tb 0 (.int .i64 ta)
 exact ⟨(h.rs.other h.tb (rows_nil _ _) h1).other hb (rows_nil _ _) h1,blk2 h.tb _ _,blk_far (blk_far h.blk (p:=⟨gT,0,none⟩) (by show cb ≠ gT;omega) _) (p:=⟨gT,1,none⟩) (by show cb ≠ gT;omega) _,(h.rows.set h.tb (by decide) 0 _).set hb (by decide) 1 _,h1,h2⟩
set_option maxHeartbeats 4000000 in
set_option maxRecDepth 100000 in
theorem readB_calls {w : World} {s : ByteArray} (hG : GV w) (hs : s.size ≤ 140737488355328) : Calls Tryz.prog 7 #[.string s] w (ReadEnd w (readB s)):=by
 obtain ⟨word,k,end_,code,hh⟩ : ∃ a b c d,headF s = (a,b,c,d):=⟨_,_,_,_,rfl⟩
 have hH : Calls Tryz.prog 18 #[.string s] ((w.alloc (.cells #[.int .i64 0,.slice none 0 0,.slice none 0 0,.slice none 0 0,.slice none 0 0,.slice none 0 0,.slice none 0 0,.slice none 0 0,.slice none 0 0,.slice none 0 0,.slice none 0 0] 29)).alloc (.cells #[.int .i64 0,.int .i64 0] 32)) (fun e w' => ∃ v1_ : Value,e = .returned (.tuple #[.string word,v1_,.int .i64 end_,.agg #[.int .i64 0,.int .i64 code]]) ∧ Kd.R (Kd.int .i64) 3 w' ((w.alloc (.cells #[.int .i64 0,.slice none 0 0,.slice none 0 0,.slice none 0 0,.slice none 0 0,.slice none 0 0,.slice none 0 0,.slice none 0 0,.slice none 0 0,.slice none 0 0,.slice none 0 0] 29)).alloc (.cells #[.int .i64 0,.int .i64 0] 32)).heap.size (fun _ => True) v1_ k ∧ Below ((w.alloc (.cells #[.int .i64 0,.slice none 0 0,.slice none 0 0,.slice none 0 0,.slice none 0 0,.slice none 0 0,.slice none 0 0,.slice none 0 0,.slice none 0 0,.slice none 0 0,.slice none 0 0] 29)).alloc (.cells #[.int .i64 0,.int .i64 0] 32)).heap.size ((w.alloc (.cells #[.int .i64 0,.slice none 0 0,.slice none 0 0,.slice none 0 0,.slice none 0 0,.slice none 0 0,.slice none 0 0,.slice none 0 0,.slice none 0 0,.slice none 0 0,.slice none 0 0] 29)).alloc (.cells #[.int .i64 0,.int .i64 0] 32)) w') :=
  ascii_Head.calls s word k end_ 0 code _ (GV_below hG (eA_ (eA_ (Below.refl _ _) _) _)) (by unfold ascii_Head.f;rw [if_pos hs,hh])
 have HH:=A0_.mk hH
 have HRS:=A0_.mk (RdS.begin w)
 have HG:=A0_.mk hG
 unfold readB
 rw [hh]
 dsimp only
 clear hH hG
 by_cases c0 : code = 0
 ·subst c0
  rw [if_neg (by decide)]
  have hok:=head_ok hh
  by_cases ca : word = aigB
  ·subst ca
   rw [if_neg (by intro h;exact h rfl)]
   unfold aigB at HH
   obtain ⟨k0,k1,k2,k3,k4,k5,k6,k7,k8,rfl⟩:=list9 hok.len
   have hz:=hok.all_
   obtain ⟨m0,rfl⟩ : ∃ m : Nat,k0 = m:=⟨k0.toNat,by have : 0 ≤ k0:=(hz 0).1;omega⟩
   obtain ⟨m1,rfl⟩ : ∃ m : Nat,k1 = m:=⟨k1.toNat,by have : 0 ≤ k1:=(hz 1).1;omega⟩
   obtain ⟨m2,rfl⟩ : ∃ m : Nat,k2 = m:=⟨k2.toNat,by have : 0 ≤ k2:=(hz 2).1;omega⟩
   obtain ⟨m3,rfl⟩ : ∃ m : Nat,k3 = m:=⟨k3.toNat,by have : 0 ≤ k3:=(hz 3).1;omega⟩
   obtain ⟨m4,rfl⟩ : ∃ m : Nat,k4 = m:=⟨k4.toNat,by have : 0 ≤ k4:=(hz 4).1;omega⟩
   obtain ⟨m5,rfl⟩ : ∃ m : Nat,k5 = m:=⟨k5.toNat,by have : 0 ≤ k5:=(hz 5).1;omega⟩
   obtain ⟨m6,rfl⟩ : ∃ m : Nat,k6 = m:=⟨k6.toNat,by have : 0 ≤ k6:=(hz 6).1;omega⟩
   obtain ⟨m7,rfl⟩ : ∃ m : Nat,k7 = m:=⟨k7.toNat,by have : 0 ≤ k7:=(hz 7).1;omega⟩
   obtain ⟨m8,rfl⟩ : ∃ m : Nat,k8 = m:=⟨k8.toNat,by have : 0 ≤ k8:=(hz 8).1;omega⟩
   obtain ⟨p,rfl⟩ : ∃ m : Nat,end_ = m:=⟨end_.toNat,by have:=hok.place;omega⟩
   have HM:=A0_.mk (show m0 ≤ 16384 ∧ m1 ≤ 16384 ∧ m2 ≤ 16384 ∧ m3 ≤ 16384 ∧ m4 ≤ 16384 ∧ m5 ≤ 16384 ∧ m6 ≤ 16384 ∧ m7 ≤ 16384 ∧ m8 ≤ 16384 from ⟨Int.ofNat_le.1 (hz 0).2,Int.ofNat_le.1 (hz 1).2,Int.ofNat_le.1 (hz 2).2,Int.ofNat_le.1 (hz 3).2,Int.ofNat_le.1 (hz 4).2,Int.ofNat_le.1 (hz 5).2,Int.ofNat_le.1 (hz 6).2,Int.ofNat_le.1 (hz 7).2,Int.ofNat_le.1 (hz 8).2⟩)
   have HP:=A0_.mk (show p ≤ s.size by have:=hok.place;omega)
   have HS:=A0_.mk hok.size
   have hm0 : ([(m0 : Int),m1,m2,m3,m4,m5,m6,m7,m8] : List Int).getD 0 0 = (m0 : Int):=rfl
   have e9 : (if ([(m0 : Int),m1,m2,m3,m4,m5,m6,m7,m8] : List Int).getD 0 0 ≠ ([(m0 : Int),m1,m2,m3,m4,m5,m6,m7,m8] : List Int).getD 1 0 + ([(m0 : Int),m1,m2,m3,m4,m5,m6,m7,m8] : List Int).getD 2 0 + ([(m0 : Int),m1,m2,m3,m4,m5,m6,m7,m8] : List Int).getD 4 0 then (x0S,(0 : Int),(41 : Int)) else readGatesB s ((([(m0 : Int),m1,m2,m3,m4,m5,m6,m7,m8] : List Int).getD 1 0).toNat + (([(m0 : Int),m1,m2,m3,m4,m5,m6,m7,m8] : List Int).getD 2 0).toNat) (([(m0 : Int),m1,m2,m3,m4,m5,m6,m7,m8] : List Int).getD 4 0).toNat (formB s (([(m0 : Int),m1,m2,m3,m4,m5,m6,m7,m8] : List Int).getD 0 0).toNat (([(m0 : Int),m1,m2,m3,m4,m5,m6,m7,m8] : List Int).getD 1 0).toNat (([(m0 : Int),m1,m2,m3,m4,m5,m6,m7,m8] : List Int).getD 2 0).toNat (([(m0 : Int),m1,m2,m3,m4,m5,m6,m7,m8] : List Int).getD 3 0).toNat (([(m0 : Int),m1,m2,m3,m4,m5,m6,m7,m8] : List Int).getD 5 0).toNat (([(m0 : Int),m1,m2,m3,m4,m5,m6,m7,m8] : List Int).getD 6 0).toNat (([(m0 : Int),m1,m2,m3,m4,m5,m6,m7,m8] : List Int).getD 7 0).toNat (([(m0 : Int),m1,m2,m3,m4,m5,m6,m7,m8] : List Int).getD 8 0).toNat (p : Int).toNat)) = if (m0 : Int) ≠ (m1 : Int) + (m2 : Int) + (m4 : Int) then (x0S,(0 : Int),(41 : Int)) else readGatesB s (m1 + m2) m4 (formB s m0 m1 m2 m3 m5 m6 m7 m8 p):=rfl
   rw [e9]
   clear hm0 e9 hz hok hh hs
   have hw12 : IntKind.i64.wrap ((m1 : Int) + (m2 : Int)) = (m1 : Int) + (m2 : Int):=by have:=HM.out;rw [IntKind.wrap_i64];omega
   have hw124 : IntKind.i64.wrap ((m1 : Int) + (m2 : Int) + (m4 : Int)) = (m1 : Int) + (m2 : Int) + (m4 : Int):=by have:=HM.out;rw [IntKind.wrap_i64];omega
   obtain ⟨FIN,hFIN⟩ : ∃ F,(if (m0 : Int) ≠ (m1 : Int) + (m2 : Int) + (m4 : Int) then (x0S,(0 : Int),(41 : Int)) else readGatesB s (m1 + m2) m4 (formB s m0 m1 m2 m3 m5 m6 m7 m8 p)) = F:=⟨_,rfl⟩
   rw [hFIN]
   have HFIN:=A0_.mk hFIN
   clear hFIN
   go_enter Tryz.func7,Tryz.ntmps7
   go_upto_region 2 with (first|(go_at_call 18;refine HH.out.mono ?_;rintro e w1 ⟨v1,rfl,hr,hb⟩;obtain ⟨g,n1,rfl,hgb,hcc⟩:=row_some hr (Nat.succ_pos _);clear hgb hcc;have HRS1:=A0_.mk (HRS.out.below hb);have HR1:=A0_.mk (Kd.R_lower hr HRS.out.be.size);clear hr hb))
   have HLT1:=A0_.mk (blk_lt HRS1.out.F)
   have hbe:=eA_ (Below.refl w1.heap.size w1) (.cells #[.int .i64 0,.int .i64 0] 32)
   have h2:=HRS1.out.below hbe
   have hnr:=Kd.R_below HR1.out hbe
   have hL0:=blk_new w1 (.cells #[.int .i64 0,.int .i64 0] 32)
   clear hbe HRS1 HR1
   generalize w1.alloc (.cells #[.int .i64 0,.int .i64 0] 32) = W2 at h2 hnr hL0 ⊢
   generalize w1.heap.size = gT at HLT1 hL0 ⊢
   have hlt:=HLT1.out
   have f0 : W2.cell? ⟨gT,0,none⟩ = some (.int .i64 0):=bC_ hL0 0
   have f1 : W2.cell? ⟨gT,1,none⟩ = some (.int .i64 0):=bC_ hL0 1
   go_upto_region 6 with (fail)
   clear f0 f1
   have hcell : ∀ i : Nat,i < 9 → W2.cell? ⟨g,i,none⟩ = some (.int .i64 (([(m0 : Int),m1,m2,m3,m4,m5,m6,m7,m8] : List Int).getD i 0)):=fun i hi => by
    obtain ⟨g',cp,he,_,hc⟩:=row_some hnr (Nat.succ_pos _)
    injection he with he1 he2 he3
    injection he1 with he1
    injection he1 with he1
    subst he1
    exact hc i hi
   refine wp_normal' ?_
   refine start_ (n:=16) (S:=fun w' => w'.cell? ⟨g,0,none⟩ = some (.int .i64 (m0 : Int)) ∧ w'.cell? ⟨g,1,none⟩ = some (.int .i64 (m1 : Int)) ∧ w'.cell? ⟨g,2,none⟩ = some (.int .i64 (m2 : Int)) ∧ w'.cell? ⟨g,4,none⟩ = some (.int .i64 (m4 : Int))) (ds:=[]) (Array.replicate 16 false) (by kernel_rfl) rfl rfl ⟨hcell 0 (by decide),hcell 1 (by decide),hcell 2 (by decide),hcell 4 (by decide)⟩ (fun hHeld => ?_)
   refine pure_ (i:=0) (N:=some 32) (v:=?_) (a':=?_) (zA_ 16 1) rfl rfl (by kernel_rfl) (fun _ _ _ h => by cases h.1) (Or.inl ⟨by rfl,?_⟩) ?_ ?_
   rotate_left
   ·intro w'
    go_simp
    with_reducible rfl
   rotate_left
   ·simp only [Act.put,sA_,sB_,sC_]
    rfl
   refine pure_ (i:=1) (N:=some 33) (v:=?_) (a':=?_) (zA_ 16 3) rfl rfl (by kernel_rfl) (fun _ _ _ h => by cases h.1) (Or.inl ⟨by rfl,?_⟩) ?_ ?_
   rotate_left
   ·intro w'
    go_simp
    with_reducible rfl
   rotate_left
   ·simp only [Act.put,sA_,sB_,sC_]
    rfl
   refine take_ (i:=2) (N:=some 34) (v:=?_) (a':=?_) (zA_ 16 7) rfl rfl (by kernel_rfl) (fun _ _ _ h => by cases h.1) (Or.inl ⟨by rfl,?_⟩) hHeld ?_ ?_
   rotate_left
   ·intro w' s0
    obtain ⟨s0_,s1_,s2_,s3_⟩:=s0
    go_simp
    with_reducible rfl
   rotate_left
   ·simp only [Act.put,sA_,sB_,sC_]
    rfl
   refine pure_ (i:=3) (N:=some 35) (v:=?_) (a':=?_) (zA_ 16 15) rfl rfl (by kernel_rfl) (fun _ _ _ h => by cases h.1) (Or.inl ⟨by rfl,?_⟩) ?_ ?_
   rotate_left
   ·intro w'
    go_simp
    with_reducible rfl
   rotate_left
   ·simp only [Act.put,sA_,sB_,sC_]
    rfl
   refine pure_ (i:=4) (N:=some 36) (v:=?_) (a':=?_) (zA_ 16 31) rfl rfl (by kernel_rfl) (fun _ _ _ h => by cases h.1) (Or.inl ⟨by rfl,?_⟩) ?_ ?_
   rotate_left
   ·intro w'
    go_simp
    with_reducible rfl
   rotate_left
   ·simp only [Act.put,sA_,sB_,sC_]
    rfl
   refine take_ (i:=5) (N:=some 37) (v:=?_) (a':=?_) (zA_ 16 63) rfl rfl (by kernel_rfl) (fun _ _ _ h => by cases h.1) (Or.inl ⟨by rfl,?_⟩) hHeld ?_ ?_
   rotate_left
   ·intro w' s0
    obtain ⟨s0_,s1_,s2_,s3_⟩:=s0
    go_simp
    with_reducible rfl
   rotate_left
   ·simp only [Act.put,sA_,sB_,sC_]
    rfl
   refine pure_ (i:=6) (N:=some 38) (v:=?_) (a':=?_) (zA_ 16 127) rfl rfl (by kernel_rfl) (fun _ _ _ h => by cases h.1) (Or.inl ⟨by rfl,?_⟩) ?_ ?_
   rotate_left
   ·intro w'
    go_simp
    with_reducible rfl
   rotate_left
   ·simp only [Act.put,sA_,sB_,sC_]
    rfl
   refine pure_ (i:=7) (N:=some 39) (v:=?_) (a':=?_) (zA_ 16 255) rfl rfl (by kernel_rfl) (fun _ _ _ h => by cases h.1) (Or.inl ⟨by rfl,?_⟩) ?_ ?_
   rotate_left
   ·intro w'
    go_simp
    with_reducible rfl
   rotate_left
   ·simp only [Act.put,sA_,sB_,sC_]
    rfl
   refine take_ (i:=8) (N:=some 40) (v:=?_) (a':=?_) (zA_ 16 511) rfl rfl (by kernel_rfl) (fun _ _ _ h => by cases h.1) (Or.inl ⟨by rfl,?_⟩) hHeld ?_ ?_
   rotate_left
   ·intro w' s0
    obtain ⟨s0_,s1_,s2_,s3_⟩:=s0
    go_simp
    with_reducible rfl
   rotate_left
   ·simp only [Act.put,sA_,sB_,sC_]
    rfl
   refine pure_ (i:=9) (N:=some 41) (v:=?_) (a':=?_) (zA_ 16 1023) rfl rfl (by kernel_rfl) (fun _ _ _ h => by cases h.1) (Or.inl ⟨by rfl,?_⟩) ?_ ?_
   rotate_left
   ·intro w'
    go_simp
    with_reducible rfl
   rotate_left
   ·simp only [Act.put,sA_,sB_,sC_]
    rfl
   refine pure_ (i:=10) (N:=some 42) (v:=?_) (a':=?_) (zA_ 16 2047) rfl rfl (by kernel_rfl) (fun _ _ _ h => by cases h.1) (Or.inl ⟨by rfl,?_⟩) ?_ ?_
   rotate_left
   ·intro w'
    go_simp
    with_reducible rfl
   rotate_left
   ·simp only [Act.put,sA_,sB_,sC_]
    rfl
   refine pure_ (i:=11) (N:=some 43) (v:=?_) (a':=?_) (zA_ 16 4095) rfl rfl (by kernel_rfl) (fun _ _ _ h => by cases h.1) (Or.inl ⟨by rfl,?_⟩) ?_ ?_
   rotate_left
   ·intro w'
    go_simp
    with_reducible rfl
   rotate_left
   ·simp only [Act.put,sA_,sB_,sC_]
    rfl
   refine take_ (i:=12) (N:=some 44) (v:=?_) (a':=?_) (zA_ 16 8191) rfl rfl (by kernel_rfl) (fun _ _ _ h => by cases h.1) (Or.inl ⟨by rfl,?_⟩) hHeld ?_ ?_
   rotate_left
   ·intro w' s0
    obtain ⟨s0_,s1_,s2_,s3_⟩:=s0
    go_simp
    with_reducible rfl
   rotate_left
   ·simp only [Act.put,sA_,sB_,sC_]
    rfl
   refine pure_ (i:=13) (N:=some 45) (v:=?_) (a':=?_) (zA_ 16 16383) rfl rfl (by kernel_rfl) (fun _ _ _ h => by cases h.1) (Or.inl ⟨by rfl,?_⟩) ?_ ?_
   rotate_left
   ·intro w'
    go_simp
    with_reducible rfl
   rotate_left
   ·simp only [Act.put,sA_,sB_,sC_]
    rfl
   refine pure_ (i:=14) (N:=some 46) (v:=?_) (a':=?_) (zA_ 16 32767) rfl rfl (by kernel_rfl) (fun _ _ _ h => by cases h.1) (Or.inl ⟨by rfl,?_⟩) ?_ ?_
   rotate_left
   ·intro w'
    go_simp
    with_reducible rfl
   rotate_left
   ·simp only [Act.put,sA_,sB_,sC_]
    rfl
   refine pure_ (i:=15) (N:=some 31) (v:=?_) (a':=?_) (zA_ 16 65535) rfl rfl (by kernel_rfl) (fun _ _ _ h => by cases h.1) (Or.inl ⟨by rfl,?_⟩) ?_ ?_
   rotate_left
   ·intro w'
    go_simp
    with_reducible rfl
   rotate_left
   ·simp only [Act.put,sA_,sB_,sC_]
    rfl
   refine done_ (by kernel_rfl) ?_
   refine ⟨rfl,?_⟩
   rename_i hKK
   refine hKK _ _ ?_
   clear hKK
   have hbd:=below_drew (Below.refl W2.heap.size W2)
   have h3:=h2.below hbd
   have hnr3:=Kd.R_below hnr hbd
   have hL3:=keep_below hL0 hbd
   clear h2 hnr hL0 hbd hcell hw12 hw124
   generalize W2.drew = W3 at h3 hnr3 hL3 ⊢
   by_cases hm : (m0 : Int) = (m1 : Int) + (m2 : Int) + (m4 : Int)
   ·have hf:=HFIN.out
    rw [if_neg (by intro h;exact h hm)] at hf
    have HFIN:=A0_.mk hf
    have hmb : ((m0 : Int) == (m1 : Int) + (m2 : Int) + (m4 : Int)) = true:=beq_iff_eq.2 hm
    have HMM:=A0_.mk hm
    clear hf hm
    go_upto_region 8 with (fail)
    have hmn : ((m0 : Int) != (m1 : Int) + (m2 : Int) + (m4 : Int)) = false:=by rw [bne,hmb];rfl
    simp only [hmn]
    clear hmb hmn hHeld
    have n0 : W3.cell? ⟨g,0,none⟩ = some (.int .i64 (m0 : Int)):=by
     obtain ⟨g',cp,he,_,hc⟩:=row_some hnr3 (Nat.succ_pos _)
     injection he with he1 he2 he3
     injection he1 with he1
     injection he1 with he1
     subst he1
     exact hc 0 (Nat.succ_pos _)
    go_upto_region 9 with (fail)
    have hbe:=eA_ (Below.refl W3.heap.size W3) (.cells #[.int .i64 (m0 : Int),.slice none 0 0,.slice none 0 0,.slice none 0 0,.slice none 0 0,.slice none 0 0,.slice none 0 0,.slice none 0 0,.slice none 0 0,.slice none 0 0,.slice none 0 0] 29)
    have hlt3:=blk_lt hL3
    obtain ⟨gn,hgn⟩ : ∃ cells,W3.heap[g]? = some (.cells cells 3 (0,0)):=Kd.R_typed hnr3 g rfl
    have HGL:=A0_.mk (Nat.lt_trans (blk_lt hgn) (Nat.lt_succ_self _))
    have HB0:=A0_.mk (show BR0 w (W3.alloc (.cells #[.int .i64 (m0 : Int),.slice none 0 0,.slice none 0 0,.slice none 0 0,.slice none 0 0,.slice none 0 0,.slice none 0 0,.slice none 0 0,.slice none 0 0,.slice none 0 0,.slice none 0 0] 29)) g n1 gT W3.heap.size ([(m0 : Int),m1,m2,m3,m4,m5,m6,m7,m8] : List Int) m0 (.slice none 0 0) [] from ⟨h3.below hbe,Kd.R_below hnr3 hbe,keep_below hL3 hbe,blk_new W3 _,Kd.R_nil _ _ _ _ _,hlt,hlt3⟩)
    have HGC:=A0_.mk (blk_lt hgn)
    clear n0 hbe hlt3 h3 hnr3 hL3 hgn HGL
    generalize W3.alloc (.cells #[.int .i64 (m0 : Int),.slice none 0 0,.slice none 0 0,.slice none 0 0,.slice none 0 0,.slice none 0 0,.slice none 0 0,.slice none 0 0,.slice none 0 0,.slice none 0 0,.slice none 0 0] 29) = W4 at HB0 ⊢
    generalize W3.heap.size = cb at HB0 HGC ⊢
    have n1' : W4.cell? ⟨g,1,none⟩ = some (.int .i64 (m1 : Int)):=by
     obtain ⟨g',cp,he,_,hc⟩:=row_some HB0.out.nr (Nat.succ_pos _)
     injection he with he1 he2 he3
     injection he1 with he1
     injection he1 with he1
     subst he1
     exact hc 1 (Nat.succ_lt_succ (Nat.succ_pos _))
    go_wp2
    (try simp only [Act.put,sA_,sB_,sC_])
    clear n1'
    go_loopg [56] (m1 + 1) (fun kq v56 w' => ∃ (k : Nat) (v1 : Value),v56 = .int .i64 (k : Int) ∧ A0_ (k + kq = m1 + 1) ∧ A0_ (k ≤ m1) ∧ A0_ (BR0 w w' g n1 gT cb ([(m0 : Int),m1,m2,m3,m4,m5,m6,m7,m8] : List Int) m0 v1 (inputsB k)))
    case atStart => exact ⟨0,_,rfl,⟨by omega⟩,⟨Nat.zero_le _⟩,HB0⟩
    case round =>
     clear HB0
     obtain ⟨k,v1,rfl,HK,HKN,HB0⟩:=hrel
     obtain ⟨A1,c1,rfl⟩:=Kd.R_slice HB0.out.row
     by_cases ck : k < m1
     ·obtain ⟨gg1,rfl⟩ : ∃ gg1,gk = gg1 + 1:=by
       cases gk with
       |zero => have:=HK.out;omega
       |succ gg1 => exact ⟨gg1,rfl⟩
      have ckb : decide ((k : Int) < (m1 : Int)) = true:=decide_eq_true (by omega)
      have ckb' : decide (k < m1) = true:=decide_eq_true ck
      have hw1 : IntKind.i64.wrap ((k : Int) + 1) = (k : Int) + 1:=by have:=HM.out;rw [IntKind.wrap_i64];omega
      have hw2 : IntKind.i64.wrap (2 * ((k : Int) + 1)) = 2 * ((k : Int) + 1):=by have:=HM.out;rw [IntKind.wrap_i64];omega
      have e1 : wr.cell? ⟨cb,1,none⟩ = some (.slice A1 (inputsB k).length c1):=bC_ HB0.out.blk 1
      have HCK:=A0_.mk ck
      have HL:=A0_.mk (inputsB_len k)
      clear ck
      go_wp2_with (at_builtin;refine Kd.R_append (Kd.int .i64) (w0:=w) w.heap.size rfl (.tmp 60) (.tmp 64) 22 3 (.int .i64 0) 8 rfl Tryz.underlying22 info3a rfl (by decide) (by decide) _ (inputsB k) (2 * ((k : Int) + 1)) [.int .i64 (2 * ((k : Int) + 1))] (fun j => j ≠ g) (fun _ => False) rfl rfl rfl (fun _ h => h.elim) (fun j hj => by have:=HGC.out;have h1:=blk_lt HB0.out.blk;omega) HB0.out.row HB0.out.rs.be HB0.out.rs.be.size (by have:=HL.out;have:=HCK.out;have:=HM.out;omega) ?_;intro v3 w3 hr3 hb3 hg3 hat3;obtain ⟨A3,c3,rfl⟩:=Kd.R_slice hr3;simp only [List.length_append,List.length_cons,List.length_nil,Nat.zero_add] at hr3;have hB3:=blk_grown HB0.out.blk hg3 (ownI_ne HB0.out.row HB0.out.blk (by decide));have e3 : w3.cell? ⟨cb,1,none⟩ = some (.slice A1 (inputsB k).length c1):=bC_ hB3 1;have z3:=bF_ hB3 1;have HB3:=A0_.mk (HB0.out.app hr3 hb3 hg3);clear hr3 hb3 hg3 hat3 hB3)
      go_roundg gg1
      case measure => omega
      case rel => exact ⟨k + 1,_,by push_cast;rfl,⟨by have:=HK.out;omega⟩,⟨by have:=HCK.out;omega⟩,⟨by rw [inputsB_succ];exact HB3.out⟩⟩
     ·have ckb : decide ((k : Int) < (m1 : Int)) = false:=decide_eq_false (by omega)
      have ckb' : decide (k < m1) = false:=decide_eq_false ck
      obtain rfl : m1 = k:=by have:=HKN.out;omega
      clear HK HKN ck
      go_upto_region 15 with (fail)
      have hbe:=eA_ (Below.refl wr.heap.size wr) (.cells #[.string s,.int .i64 (p : Int),.int .i64 (-1)] 47)
      have HBR:=A0_.mk (show BR w (wr.alloc (.cells #[.string s,.int .i64 (p : Int),.int .i64 (-1)] 47)) g n1 gT cb wr.heap.size ([(m0 : Int),m1,m2,m3,m4,m5,m6,m7,m8] : List Int) s (.ok p) ⟨(m0 : Int),inputsB m1,[],[],[],[],[],[],[],[],[]⟩ ⟨.slice A1 (inputsB m1).length c1,.slice none 0 0,.slice none 0 0,.slice none 0 0,.slice none 0 0,.slice none 0 0,.slice none 0 0,.slice none 0 0,.slice none 0 0,.slice none 0 0⟩ from
       ⟨HB0.out.rs.below hbe,Kd.R_below HB0.out.nr hbe,keep_below HB0.out.tb hbe,keep_below HB0.out.blk hbe,⟨blk_new wr _,HP.out⟩,⟨Kd.R_mono (Kd.R_below HB0.out.row hbe) (fun _ _ => trivial),Kd.R_nil _ _ _ _ _,Kd.R_nil _ _ _ _ _,Kd.R_nil _ _ _ _ _,Kd.R_nil _ _ _ _ _,Kd.R_nil _ _ _ _ _,Kd.R_nil _ _ _ _ _,Kd.R_nil _ _ _ _ _,Kd.R_nil _ _ _ _ _,Kd.R_nil _ _ _ _ _⟩,HB0.out.o1,HB0.out.o2,blk_lt HB0.out.blk⟩)
      clear hbe HB0 HGC ckb ckb'
      generalize wr.alloc (.cells #[.string s,.int .i64 (p : Int),.int .i64 (-1)] 47) = W5 at HBR ⊢
      generalize wr.heap.size = R at HBR ⊢
      have HBd:=A0_.mk (HBR.out.below (below_drew (Below.refl W5.heap.size W5)))
      clear HBR
      refine wp_normal' ?_
      refine start_ (n:=10) (S:=fun w' => w'.cell? ⟨g,1,none⟩ = some (.int .i64 (m1 : Int)) ∧ w'.cell? ⟨g,2,none⟩ = some (.int .i64 (m2 : Int))) (ds:=[9]) (Array.replicate 10 false) (by kernel_rfl) rfl rfl ⟨HBd.out.cell rfl 1 (by decide),HBd.out.cell rfl 2 (by decide)⟩ (fun hHeld => ?_)
      refine pure_ (i:=0) (N:=some 72) (v:=?_) (a':=?_) (zA_ 10 1) rfl rfl (by kernel_rfl) (fun _ _ _ h => by cases h.1) (Or.inl ⟨by rfl,?_⟩) ?_ ?_
      rotate_left
      ·intro w'
       go_simp
       with_reducible rfl
      rotate_left
      ·simp only [Act.put,sA_,sB_,sC_]
       rfl
      refine pure_ (i:=1) (N:=some 73) (v:=?_) (a':=?_) (zA_ 10 3) rfl rfl (by kernel_rfl) (fun _ _ _ h => by cases h.1) (Or.inl ⟨by rfl,?_⟩) ?_ ?_
      rotate_left
      ·intro w'
       go_simp
       with_reducible rfl
      rotate_left
      ·simp only [Act.put,sA_,sB_,sC_]
       rfl
      refine pure_ (i:=2) (N:=some 74) (v:=?_) (a':=?_) (zA_ 10 7) rfl rfl (by kernel_rfl) (fun _ _ _ h => by cases h.1) (Or.inl ⟨by rfl,?_⟩) ?_ ?_
      rotate_left
      ·intro w'
       go_simp
       with_reducible rfl
      rotate_left
      ·simp only [Act.put,sA_,sB_,sC_]
       rfl
      refine take_ (i:=3) (N:=some 75) (v:=?_) (a':=?_) (zA_ 10 15) rfl rfl (by kernel_rfl) (fun _ _ _ h => by cases h.1) (Or.inl ⟨by rfl,?_⟩) hHeld ?_ ?_
      rotate_left
      ·intro w' s0
       obtain ⟨s0_,s1_⟩:=s0
       go_simp
       with_reducible rfl
      rotate_left
      ·simp only [Act.put,sA_,sB_,sC_]
       rfl
      refine pure_ (i:=4) (N:=some 76) (v:=?_) (a':=?_) (zA_ 10 31) rfl rfl (by kernel_rfl) (fun _ _ _ h => by cases h.1) (Or.inl ⟨by rfl,?_⟩) ?_ ?_
      rotate_left
      ·intro w'
       go_simp
       with_reducible rfl
      rotate_left
      ·simp only [Act.put,sA_,sB_,sC_]
       rfl
      refine pure_ (i:=5) (N:=some 77) (v:=?_) (a':=?_) (zA_ 10 63) rfl rfl (by kernel_rfl) (fun _ _ _ h => by cases h.1) (Or.inl ⟨by rfl,?_⟩) ?_ ?_
      rotate_left
      ·intro w'
       go_simp
       with_reducible rfl
      rotate_left
      ·simp only [Act.put,sA_,sB_,sC_]
       rfl
      refine take_ (i:=6) (N:=some 78) (v:=?_) (a':=?_) (zA_ 10 127) rfl rfl (by kernel_rfl) (fun _ _ _ h => by cases h.1) (Or.inl ⟨by rfl,?_⟩) hHeld ?_ ?_
      rotate_left
      ·intro w' s0
       obtain ⟨s0_,s1_⟩:=s0
       go_simp
       with_reducible rfl
      rotate_left
      ·simp only [Act.put,sA_,sB_,sC_]
       rfl
      refine one_ (i:=7) (N:=some 79) (zA_ 10 255) rfl rfl (by kernel_rfl) (by decide) (fun K hK => ?_)
      refine goes_ Tryz.func19 (by kernel_rfl) rfl #[.pointer (some ⟨R,0,none⟩),.int .i64 (m1 : Int),.int .i64 (m2 : Int)] (by rfl) rfl rfl (by (try simp only [List.map_toArray,List.map_cons,List.map_nil]);first|done|rfl) ?_
      refine (latchesAny (a0:=m1) (n:=m2) HG.out HBd.out.rs.be (by have:=HBd.out.o1;have:=HBd.out.o2;have:=HBd.out.o3;omega) HBd.out.ss HS.out HM.out.2.2.1 HM.out.2.1).mono ?_
      rintro e W6 ⟨v2,l2,rfl,hr,hs,hk,hq⟩
      obtain ⟨A2,c2,rfl⟩:=Kd.R_slice hr
      have HB6:=A0_.mk (HBd.out.kr hk hs)
      have HR6:=A0_.mk (Kd.R_lower hr HBd.out.rs.be.size)
      have HQ2:=A0_.mk hq
      refine ⟨_,rfl,hK.out _ _ ⟨HB6.out.cell rfl 1 (by decide),HB6.out.cell rfl 2 (by decide)⟩ (fun hHeld2 => ?_)⟩
      clear hK K hr hs hk hq hHeld2 hHeld
      refine norm_ (a':=?_) ?_ ?_
      rotate_left
      ·show Act.put _ (some 79) _ = _
       simp only [Act.put,sA_,sB_,sC_]
       rfl
      refine pure_ (i:=8) (N:=some 80) (v:=?_) (a':=?_) (zA_ 10 511) rfl rfl (by kernel_rfl) (fun _ _ _ h => by cases h.1) (Or.inl ⟨by rfl,?_⟩) ?_ ?_
      rotate_left
      ·intro w'
       go_simp
       with_reducible rfl
      rotate_left
      ·simp only [Act.put,sA_,sB_,sC_]
       rfl
      have e2 : W6.cell? ⟨cb,2,none⟩ = some (.slice none 0 0):=bC_ HB6.out.blk 2
      have z2:=bF_ HB6.out.blk 2
      refine last_ (i:=9) (N:=none) (zA_ 10 1023) rfl rfl (by kernel_rfl) (by decide) (fun K hK => ?_)
      refine skip_ (w1:=W6.setCell ⟨cb,2,none⟩ (.slice A2 l2.length c2)) rfl rfl ?_ ?_
      ·go_simp
      refine hK.out _ _ ?_
      clear hK K
      refine done_ (by kernel_rfl) ?_
      refine ⟨rfl,?_⟩
      rename_i hKK
      refine hKK _ _ ?_
      clear hKK e2 z2
      have HB7:=A0_.mk (HB6.out.put2 HR6.out)
      dsimp only at HB7
      clear HB6 HR6 HBd
      generalize W6.setCell ⟨cb,2,none⟩ (.slice A2 l2.length c2) = W7 at HB7 ⊢
      have HBd:=A0_.mk (HB7.out.below (below_drew (Below.refl W7.heap.size W7)))
      clear HB7
      go_upto_region 16 with (fail)
      refine wp_normal' ?_
      refine start_ (n:=21) (S:=fun w' => w'.cell? ⟨g,3,none⟩ = some (.int .i64 (m3 : Int)) ∧ w'.cell? ⟨g,5,none⟩ = some (.int .i64 (m5 : Int)) ∧ w'.cell? ⟨g,6,none⟩ = some (.int .i64 (m6 : Int))) (ds:=[20]) (Array.replicate 21 false) (by kernel_rfl) rfl rfl ⟨HBd.out.cell rfl 3 (by decide),HBd.out.cell rfl 5 (by decide),HBd.out.cell rfl 6 (by decide)⟩ (fun hHeld => ?_)
      refine pure_ (i:=0) (N:=some 81) (v:=?_) (a':=?_) (zA_ 21 1) rfl rfl (by kernel_rfl) (fun _ _ _ h => by cases h.1) (Or.inl ⟨by rfl,?_⟩) ?_ ?_
      rotate_left
      ·intro w'
       go_simp
       with_reducible rfl
      rotate_left
      ·simp only [Act.put,sA_,sB_,sC_]
       rfl
      refine pure_ (i:=1) (N:=some 82) (v:=?_) (a':=?_) (zA_ 21 3) rfl rfl (by kernel_rfl) (fun _ _ _ h => by cases h.1) (Or.inl ⟨by rfl,?_⟩) ?_ ?_
      rotate_left
      ·intro w'
       go_simp
       with_reducible rfl
      rotate_left
      ·simp only [Act.put,sA_,sB_,sC_]
       rfl
      refine pure_ (i:=2) (N:=some 83) (v:=?_) (a':=?_) (zA_ 21 7) rfl rfl (by kernel_rfl) (fun _ _ _ h => by cases h.1) (Or.inl ⟨by rfl,?_⟩) ?_ ?_
      rotate_left
      ·intro w'
       go_simp
       with_reducible rfl
      rotate_left
      ·simp only [Act.put,sA_,sB_,sC_]
       rfl
      refine take_ (i:=3) (N:=some 84) (v:=?_) (a':=?_) (zA_ 21 15) rfl rfl (by kernel_rfl) (fun _ _ _ h => by cases h.1) (Or.inl ⟨by rfl,?_⟩) hHeld ?_ ?_
      rotate_left
      ·intro w' s0
       obtain ⟨s0_,s1_,s2_⟩:=s0
       go_simp
       with_reducible rfl
      rotate_left
      ·simp only [Act.put,sA_,sB_,sC_]
       rfl
      refine pure_ (i:=5) (N:=some 86) (v:=?_) (a':=?_) (zA_ 21 47) rfl rfl (by kernel_rfl) (fun _ _ _ h => by cases h.1) (Or.inl ⟨by rfl,?_⟩) ?_ ?_
      rotate_left
      ·intro w'
       go_simp
       with_reducible rfl
      rotate_left
      ·simp only [Act.put,sA_,sB_,sC_]
       rfl
      refine pure_ (i:=6) (N:=some 87) (v:=?_) (a':=?_) (zA_ 21 111) rfl rfl (by kernel_rfl) (fun _ _ _ h => by cases h.1) (Or.inl ⟨by rfl,?_⟩) ?_ ?_
      rotate_left
      ·intro w'
       go_simp
       with_reducible rfl
      rotate_left
      ·simp only [Act.put,sA_,sB_,sC_]
       rfl
      refine pure_ (i:=7) (N:=some 88) (v:=?_) (a':=?_) (zA_ 21 239) rfl rfl (by kernel_rfl) (fun _ _ _ h => by cases h.1) (Or.inl ⟨by rfl,?_⟩) ?_ ?_
      rotate_left
      ·intro w'
       go_simp
       with_reducible rfl
      rotate_left
      ·simp only [Act.put,sA_,sB_,sC_]
       rfl
      refine take_ (i:=8) (N:=some 89) (v:=?_) (a':=?_) (zA_ 21 495) rfl rfl (by kernel_rfl) (fun _ _ _ h => by cases h.1) (Or.inl ⟨by rfl,?_⟩) hHeld ?_ ?_
      rotate_left
      ·intro w' s0
       obtain ⟨s0_,s1_,s2_⟩:=s0
       go_simp
       with_reducible rfl
      rotate_left
      ·simp only [Act.put,sA_,sB_,sC_]
       rfl
      refine pure_ (i:=10) (N:=some 91) (v:=?_) (a':=?_) (zA_ 21 1519) rfl rfl (by kernel_rfl) (fun _ _ _ h => by cases h.1) (Or.inl ⟨by rfl,?_⟩) ?_ ?_
      rotate_left
      ·intro w'
       go_simp
       with_reducible rfl
      rotate_left
      ·simp only [Act.put,sA_,sB_,sC_]
       rfl
      refine pure_ (i:=11) (N:=some 92) (v:=?_) (a':=?_) (zA_ 21 3567) rfl rfl (by kernel_rfl) (fun _ _ _ h => by cases h.1) (Or.inl ⟨by rfl,?_⟩) ?_ ?_
      rotate_left
      ·intro w'
       go_simp
       with_reducible rfl
      rotate_left
      ·simp only [Act.put,sA_,sB_,sC_]
       rfl
      refine pure_ (i:=12) (N:=some 93) (v:=?_) (a':=?_) (zA_ 21 7663) rfl rfl (by kernel_rfl) (fun _ _ _ h => by cases h.1) (Or.inl ⟨by rfl,?_⟩) ?_ ?_
      rotate_left
      ·intro w'
       go_simp
       with_reducible rfl
      rotate_left
      ·simp only [Act.put,sA_,sB_,sC_]
       rfl
      refine take_ (i:=13) (N:=some 94) (v:=?_) (a':=?_) (zA_ 21 15855) rfl rfl (by kernel_rfl) (fun _ _ _ h => by cases h.1) (Or.inl ⟨by rfl,?_⟩) hHeld ?_ ?_
      rotate_left
      ·intro w' s0
       obtain ⟨s0_,s1_,s2_⟩:=s0
       go_simp
       with_reducible rfl
      rotate_left
      ·simp only [Act.put,sA_,sB_,sC_]
       rfl
      refine one_ (i:=4) (N:=some 85) (zA_ 21 15871) rfl rfl (by kernel_rfl) (by decide) (fun K hK => ?_)
      refine goes_ Tryz.func20 (by kernel_rfl) rfl #[.pointer (some ⟨R,0,none⟩),.int .i64 (m3 : Int)] (by rfl) rfl rfl (by (try simp only [List.map_toArray,List.map_cons,List.map_nil]);first|done|rfl) ?_
      refine (listAny (n:=m3) HG.out HBd.out.rs.be (by have:=HBd.out.o1;have:=HBd.out.o2;have:=HBd.out.o3;omega) HBd.out.ss HS.out (by have:=HM.out;omega)).mono ?_
      rintro e Wa ⟨v3,l3,rfl,hr,hs,hk,hq⟩
      obtain ⟨A3,c3,rfl⟩:=Kd.R_slice hr
      have HWa:=A0_.mk (HBd.out.kr hk hs)
      have HR3:=A0_.mk (Kd.R_lower hr HBd.out.rs.be.size)
      have HQ3:=A0_.mk hq
      refine ⟨_,rfl,hK.out _ _ ⟨HWa.out.cell rfl 3 (by decide),HWa.out.cell rfl 5 (by decide),HWa.out.cell rfl 6 (by decide)⟩ (fun hHeld2 => ?_)⟩
      clear hK K hr hs hk hq hHeld2 hHeld
      refine norm_ (a':=?_) ?_ ?_
      rotate_left
      ·show Act.put _ (some 85) _ = _
       simp only [Act.put,sA_,sB_,sC_]
       rfl
      refine pure_ (i:=15) (N:=some 96) (v:=?_) (a':=?_) (zA_ 21 48639) rfl rfl (by kernel_rfl) (fun _ _ _ h => by cases h.1) (Or.inl ⟨by rfl,?_⟩) ?_ ?_
      rotate_left
      ·intro w'
       go_simp
       with_reducible rfl
      rotate_left
      ·simp only [Act.put,sA_,sB_,sC_]
       rfl
      refine one_ (i:=9) (N:=some 90) (zA_ 21 49151) rfl rfl (by kernel_rfl) (by decide) (fun K hK => ?_)
      refine goes_ Tryz.func20 (by kernel_rfl) rfl #[.pointer (some ⟨R,0,none⟩),.int .i64 (m5 : Int)] (by rfl) rfl rfl (by (try simp only [List.map_toArray,List.map_cons,List.map_nil]);first|done|rfl) ?_
      refine (listAny (n:=m5) HG.out HWa.out.rs.be (by have:=HWa.out.o1;have:=HWa.out.o2;have:=HWa.out.o3;omega) HWa.out.ss HS.out (by have:=HM.out;omega)).mono ?_
      rintro e Wb ⟨v4,l4,rfl,hr,hs,hk,hq⟩
      obtain ⟨A4,c4,rfl⟩:=Kd.R_slice hr
      have HWb:=A0_.mk (HWa.out.kr hk hs)
      have HR4:=A0_.mk (Kd.R_lower hr HWa.out.rs.be.size)
      have HQ4:=A0_.mk hq
      replace HR3:=A0_.mk (KR.rowsT hk HWa.out.ss.blk.choose_spec (by decide) HR3.out)
      refine ⟨_,rfl,hK.out _ _ ⟨HWb.out.cell rfl 3 (by decide),HWb.out.cell rfl 5 (by decide),HWb.out.cell rfl 6 (by decide)⟩ (fun hHeld2 => ?_)⟩
      clear hK K hr hs hk hq hHeld2 HWa
      refine norm_ (a':=?_) ?_ ?_
      rotate_left
      ·show Act.put _ (some 90) _ = _
       simp only [Act.put,sA_,sB_,sC_]
       rfl
      refine one_ (i:=14) (N:=some 95) (zA_ 21 65535) rfl rfl (by kernel_rfl) (by decide) (fun K hK => ?_)
      refine goes_ Tryz.func20 (by kernel_rfl) rfl #[.pointer (some ⟨R,0,none⟩),.int .i64 (m6 : Int)] (by rfl) rfl rfl (by (try simp only [List.map_toArray,List.map_cons,List.map_nil]);first|done|rfl) ?_
      refine (listAny (n:=m6) HG.out HWb.out.rs.be (by have:=HWb.out.o1;have:=HWb.out.o2;have:=HWb.out.o3;omega) HWb.out.ss HS.out (by have:=HM.out;omega)).mono ?_
      rintro e Wc ⟨v5,l5,rfl,hr,hs,hk,hq⟩
      obtain ⟨A5,c5,rfl⟩:=Kd.R_slice hr
      have HWc:=A0_.mk (HWb.out.kr hk hs)
      have HR5:=A0_.mk (Kd.R_lower hr HWb.out.rs.be.size)
      have HQ5:=A0_.mk hq
      replace HR3:=A0_.mk (KR.rowsT hk HWb.out.ss.blk.choose_spec (by decide) HR3.out)
      replace HR4:=A0_.mk (KR.rowsT hk HWb.out.ss.blk.choose_spec (by decide) HR4.out)
      refine ⟨_,rfl,hK.out _ _ ⟨HWc.out.cell rfl 3 (by decide),HWc.out.cell rfl 5 (by decide),HWc.out.cell rfl 6 (by decide)⟩ (fun hHeld2 => ?_)⟩
      clear hK K hr hs hk hq hHeld2 HWb
      refine norm_ (a':=?_) ?_ ?_
      rotate_left
      ·show Act.put _ (some 95) _ = _
       simp only [Act.put,sA_,sB_,sC_]
       rfl
      have e3 : Wc.cell? ⟨cb,3,none⟩ = some (.slice none 0 0):=bC_ HWc.out.blk 3
      have z3:=bF_ HWc.out.blk 3
      refine one_ (i:=16) (N:=none) (zA_ 21 131071) rfl rfl (by kernel_rfl) (by decide) (fun K hK => ?_)
      refine skip_ (w1:=Wc.setCell ⟨cb,3,none⟩ (.slice A3 l3.length c3)) rfl rfl ?_ ?_
      ·go_simp
      have HWd:=A0_.mk (HWc.out.put3 HR3.out)
      dsimp only at HWd
      replace HR4:=A0_.mk (Kd.R_set HR4.out HWc.out.blk (by decide) 3 (.slice A3 l3.length c3))
      replace HR5:=A0_.mk (Kd.R_set HR5.out HWc.out.blk (by decide) 3 (.slice A3 l3.length c3))
      refine hK.out _ _ ⟨HWd.out.cell rfl 3 (by decide),HWd.out.cell rfl 5 (by decide),HWd.out.cell rfl 6 (by decide)⟩ (fun hHeld2 => ?_)
      clear hK K hHeld2 HWc e3 z3
      generalize Wc.setCell ⟨cb,3,none⟩ (.slice A3 l3.length c3) = Wd at HWd HR4 HR5 ⊢
      refine pure_ (i:=17) (N:=some 97) (v:=?_) (a':=?_) (zA_ 21 262143) rfl rfl (by kernel_rfl) (fun _ _ _ h => by cases h.1) (Or.inl ⟨by rfl,?_⟩) ?_ ?_
      rotate_left
      ·intro w'
       go_simp
       with_reducible rfl
      rotate_left
      ·simp only [Act.put,sA_,sB_,sC_]
       rfl
      have e4 : Wd.cell? ⟨cb,4,none⟩ = some (.slice none 0 0):=bC_ HWd.out.blk 4
      have z4:=bF_ HWd.out.blk 4
      refine one_ (i:=18) (N:=none) (zA_ 21 524287) rfl rfl (by kernel_rfl) (by decide) (fun K hK => ?_)
      refine skip_ (w1:=Wd.setCell ⟨cb,4,none⟩ (.slice A4 l4.length c4)) rfl rfl ?_ ?_
      ·go_simp
      have HWe:=A0_.mk (HWd.out.put4 HR4.out)
      dsimp only at HWe
      replace HR5:=A0_.mk (Kd.R_set HR5.out HWd.out.blk (by decide) 4 (.slice A4 l4.length c4))
      refine hK.out _ _ ⟨HWe.out.cell rfl 3 (by decide),HWe.out.cell rfl 5 (by decide),HWe.out.cell rfl 6 (by decide)⟩ (fun hHeld2 => ?_)
      clear hK K hHeld2 HWd e4 z4
      generalize Wd.setCell ⟨cb,4,none⟩ (.slice A4 l4.length c4) = We at HWe HR5 ⊢
      refine pure_ (i:=19) (N:=some 98) (v:=?_) (a':=?_) (zA_ 21 1048575) rfl rfl (by kernel_rfl) (fun _ _ _ h => by cases h.1) (Or.inl ⟨by rfl,?_⟩) ?_ ?_
      rotate_left
      ·intro w'
       go_simp
       with_reducible rfl
      rotate_left
      ·simp only [Act.put,sA_,sB_,sC_]
       rfl
      have e5 : We.cell? ⟨cb,5,none⟩ = some (.slice none 0 0):=bC_ HWe.out.blk 5
      have z5:=bF_ HWe.out.blk 5
      refine last_ (i:=20) (N:=none) (zA_ 21 2097151) rfl rfl (by kernel_rfl) (by decide) (fun K hK => ?_)
      refine skip_ (w1:=We.setCell ⟨cb,5,none⟩ (.slice A5 l5.length c5)) rfl rfl ?_ ?_
      ·go_simp
      refine hK.out _ _ ?_
      clear hK K
      refine done_ (by kernel_rfl) ?_
      refine ⟨rfl,?_⟩
      rename_i hKK
      refine hKK _ _ ?_
      clear hKK e5 z5
      have HB8:=A0_.mk (HWe.out.put5 HR5.out)
      dsimp only at HB8
      clear HWe HR3 HR4 HR5 HBd
      generalize We.setCell ⟨cb,5,none⟩ (.slice A5 l5.length c5) = W8 at HB8 ⊢
      have nn : W8.cell? ⟨g,7,none⟩ = some (.int .i64 (m7 : Int)):=HB8.out.cell rfl 7 (by decide)
      go_upto_region 18 with (go_at_call 21;refine (justAny (n:=m7) HG.out HB8.out.rs.be (by have:=HB8.out.o1;have:=HB8.out.o2;have:=HB8.out.o3;omega) HB8.out.ss HS.out (by have:=HM.out;omega)).mono ?_;rintro e Wx ⟨v6,l6,rfl,hr,hs,hk,hq⟩;obtain ⟨A6,c6,rfl⟩:=Kd.R_slice hr;have HBx:=A0_.mk (HB8.out.kr hk hs);have HR6:=A0_.mk (Kd.R_lower hr HB8.out.rs.be.size);have HQ6:=A0_.mk hq;have e6 : Wx.cell? ⟨cb,6,none⟩ = some (.slice none 0 0):=bC_ HBx.out.blk 6;have z6:=bF_ HBx.out.blk 6;clear hr hs hk hq nn)
      have HB9:=A0_.mk (HBx.out.put6 HR6.out)
      dsimp only at HB9
      clear e6 z6 HBx HR6 HB8
      generalize Wx.setCell ⟨cb,6,none⟩ (.slice A6 l6.length c6) = W9 at HB9 ⊢
      have nn : W9.cell? ⟨g,8,none⟩ = some (.int .i64 (m8 : Int)):=HB9.out.cell rfl 8 (by decide)
      go_upto_region 19 with (go_at_call 20;refine (listAny (n:=m8) HG.out HB9.out.rs.be (by have:=HB9.out.o1;have:=HB9.out.o2;have:=HB9.out.o3;omega) HB9.out.ss HS.out (by have:=HM.out;omega)).mono ?_;rintro e Wx ⟨v7,l7,rfl,hr,hs,hk,hq⟩;obtain ⟨A7,c7,rfl⟩:=Kd.R_slice hr;have HBx:=A0_.mk (HB9.out.kr hk hs);have HR7:=A0_.mk (Kd.R_lower hr HB9.out.rs.be.size);have HQ7:=A0_.mk hq;have e7 : Wx.cell? ⟨cb,7,none⟩ = some (.slice none 0 0):=bC_ HBx.out.blk 7;have z7:=bF_ HBx.out.blk 7;clear hr hs hk hq nn)
      have HB10:=A0_.mk (HBx.out.put7 HR7.out)
      dsimp only at HB10
      clear e7 z7 HBx HR7 HB9
      generalize Wx.setCell ⟨cb,7,none⟩ (.slice A7 l7.length c7) = W10 at HB10 ⊢
      have hfc:=form_chain (m0:=m0) (p:=p) rfl HQ2.out rfl HQ3.out rfl HQ4.out rfl HQ5.out rfl HQ6.out rfl HQ7.out
      obtain ⟨st,hst⟩ : ∃ st,placeOf (step (placeOf (step (placeOf (step (placeOf (step (placeOf (step (placeOf (step (.ok p) (latchesB s m1 m2))) (listB s m3))) (listB s m5))) (listB s m6))) (justAllB s m7))) (listB s m8)) = st:=⟨_,rfl⟩
      have hb10:=HB10.out
      rw [hst] at hfc hb10
      replace HB10:=A0_.mk hb10
      have HJL:=A0_.mk (show ∀ q,st = .ok q → ∀ r ∈ l6,r.length ≤ 16384 from fun q hq => by
        rw [← hst] at hq
        cases h6 : step (placeOf (step (placeOf (step (placeOf (step (placeOf (step (.ok p) (latchesB s m1 m2))) (listB s m3))) (listB s m5))) (listB s m6))) (justAllB s m7) with
        |error x => rw [h6] at hq;cases hq
        |ok y =>
         obtain ⟨y6,q6⟩:=y
         have e6:=HQ6.out _ _ h6
         subst e6
         cases h5 : step (placeOf (step (placeOf (step (placeOf (step (.ok p) (latchesB s m1 m2))) (listB s m3))) (listB s m5))) (listB s m6) with
         |error x => rw [h5] at h6;cases h6
         |ok z =>
          obtain ⟨z5,q5⟩:=z
          rw [h5] at h6
          exact justAllB_len h6)
      have HF:=HFIN.out
      rw [hfc] at HF
      clear HFIN hfc hb10 hst HQ2 HQ3 HQ4 HQ5 HQ6 HQ7
      cases st with
      |error x =>
       have hf : FIN = (x0S,(x : Int),42):=HF.symm
       subst hf
       clear HF HJL
       obtain ⟨q,hsd⟩:=HB10.out.ss
       have hL0 : W10.heap[R]? = some (.cells #[.string s,.int .i64 (q : Int),.int .i64 (x : Int)] 47 (0,0)):=hsd
       have b2 : W10.cell? ⟨R,2,none⟩ = some (.int .i64 (x : Int)):=bC_ hL0 2
       have hd : decide ((0 : Int) ≤ (x : Int)) = true:=decide_eq_true (by omega)
       go_upto_region 20 with (fail)
       clear b2 hd hsd
       have ho1:=HB10.out.o1
       have ho2:=HB10.out.o2
       have ho3:=HB10.out.o3
       have hR0:=HB10.out.rs
       have hC0:=hR0.C
       have e0 : W10.cell? ⟨w.heap.size,0,none⟩ = some (.int .i64 0):=bC_ hC0 0
       have g0:=bF_ hC0 0
       have e1 : W10.cell? ⟨w.heap.size,1,none⟩ = some (.slice none 0 0):=bC_ hC0 1
       have g1:=bF_ hC0 1
       have e2 : W10.cell? ⟨w.heap.size,2,none⟩ = some (.slice none 0 0):=bC_ hC0 2
       have g2:=bF_ hC0 2
       have e3 : W10.cell? ⟨w.heap.size,3,none⟩ = some (.slice none 0 0):=bC_ hC0 3
       have g3:=bF_ hC0 3
       have e4 : W10.cell? ⟨w.heap.size,4,none⟩ = some (.slice none 0 0):=bC_ hC0 4
       have g4:=bF_ hC0 4
       have e5 : W10.cell? ⟨w.heap.size,5,none⟩ = some (.slice none 0 0):=bC_ hC0 5
       have g5:=bF_ hC0 5
       have e6 : W10.cell? ⟨w.heap.size,6,none⟩ = some (.slice none 0 0):=bC_ hC0 6
       have g6:=bF_ hC0 6
       have e7 : W10.cell? ⟨w.heap.size,7,none⟩ = some (.slice none 0 0):=bC_ hC0 7
       have g7:=bF_ hC0 7
       have e8 : W10.cell? ⟨w.heap.size,8,none⟩ = some (.slice none 0 0):=bC_ hC0 8
       have g8:=bF_ hC0 8
       have e9 : W10.cell? ⟨w.heap.size,9,none⟩ = some (.slice none 0 0):=bC_ hC0 9
       have g9:=bF_ hC0 9
       have e10 : W10.cell? ⟨w.heap.size,10,none⟩ = some (.slice none 0 0):=bC_ hC0 10
       have g10:=bF_ hC0 10
       refine wp_normal' ?_
       refine start_ (n:=8) (S:=fun w' => w'.cell? ⟨R,2,none⟩ = some (.int .i64 (x : Int))) (ds:=[7]) (Array.replicate 8 false) (by kernel_rfl) rfl rfl (bC_ hL0 2) (fun hHeld => ?_)
       refine pure_ (i:=0) (N:=some 116) (v:=?_) (a':=?_) (zA_ 8 1) rfl rfl (by kernel_rfl) (fun _ _ _ h => by cases h.1) (Or.inl ⟨by rfl,?_⟩) ?_ ?_
       rotate_left
       ·intro w'
        go_simp
        with_reducible rfl
       rotate_left
       ·simp only [Act.put,sA_,sB_,sC_]
        rfl
       refine pure_ (i:=1) (N:=some 117) (v:=?_) (a':=?_) (zA_ 8 3) rfl rfl (by kernel_rfl) (fun _ _ _ h => by cases h.1) (Or.inl ⟨by rfl,?_⟩) ?_ ?_
       rotate_left
       ·intro w'
        go_simp
        with_reducible rfl
       rotate_left
       ·simp only [Act.put,sA_,sB_,sC_]
        rfl
       refine pure_ (i:=2) (N:=some 118) (v:=?_) (a':=?_) (zA_ 8 7) rfl rfl (by kernel_rfl) (fun _ _ _ h => by cases h.1) (Or.inl ⟨by rfl,?_⟩) ?_ ?_
       rotate_left
       ·intro w'
        go_simp
        with_reducible rfl
       rotate_left
       ·simp only [Act.put,sA_,sB_,sC_]
        rfl
       refine pure_ (i:=3) (N:=some 119) (v:=?_) (a':=?_) (zA_ 8 15) rfl rfl (by kernel_rfl) (fun _ _ _ h => by cases h.1) (Or.inl ⟨by rfl,?_⟩) ?_ ?_
       rotate_left
       ·intro w'
        go_simp
        with_reducible rfl
       rotate_left
       ·simp only [Act.put,sA_,sB_,sC_]
        rfl
       refine take_ (i:=4) (N:=some 120) (v:=?_) (a':=?_) (zA_ 8 31) rfl rfl (by kernel_rfl) (fun _ _ _ h => by cases h.1) (Or.inl ⟨by rfl,?_⟩) hHeld ?_ ?_
       rotate_left
       ·intro w' s0
        have s0_:=s0
        go_simp
        with_reducible rfl
       rotate_left
       ·simp only [Act.put,sA_,sB_,sC_]
        rfl
       refine pure_ (i:=5) (N:=some 121) (v:=?_) (a':=?_) (zA_ 8 63) rfl rfl (by kernel_rfl) (fun _ _ _ h => by cases h.1) (Or.inl ⟨by rfl,?_⟩) ?_ ?_
       rotate_left
       ·intro w'
        go_simp
        with_reducible rfl
       rotate_left
       ·simp only [Act.put,sA_,sB_,sC_]
        rfl
       refine one_ (i:=6) (N:=none) (zA_ 8 127) rfl rfl (by kernel_rfl) (by decide) (fun K hK => ?_)
       refine skip_ (w1:=(((((((((((W10.drew).setCell ⟨w.heap.size,0,none⟩ (.int .i64 0)).setCell ⟨w.heap.size,1,none⟩ (.slice none 0 0)).setCell ⟨w.heap.size,2,none⟩ (.slice none 0 0)).setCell ⟨w.heap.size,3,none⟩ (.slice none 0 0)).setCell ⟨w.heap.size,4,none⟩ (.slice none 0 0)).setCell ⟨w.heap.size,5,none⟩ (.slice none 0 0)).setCell ⟨w.heap.size,6,none⟩ (.slice none 0 0)).setCell ⟨w.heap.size,7,none⟩ (.slice none 0 0)).setCell ⟨w.heap.size,8,none⟩ (.slice none 0 0)).setCell ⟨w.heap.size,9,none⟩ (.slice none 0 0)).setCell ⟨w.heap.size,10,none⟩ (.slice none 0 0)) rfl rfl ?_ ?_
       ·go_simp
       have h3:=(hR0.below (below_drew (Below.refl W10.heap.size W10))).setC (rows_nil W10.drew w.heap.size)
       dsimp only [nilVS,x0S] at h3
       have hF3:=h3.F
       have hL3:=far11 (keep_below hL0 (below_drew (Below.refl W10.heap.size W10))) (S:=w.heap.size) (by omega) (.int .i64 0) (.slice none 0 0) (.slice none 0 0) (.slice none 0 0) (.slice none 0 0) (.slice none 0 0) (.slice none 0 0) (.slice none 0 0) (.slice none 0 0) (.slice none 0 0) (.slice none 0 0)
       refine hK.out _ _ (bC_ hL3 2) (fun hHeld2 => ?_)
       clear hK K hHeld e0 g0 e1 g1 e2 g2 e3 g3 e4 g4 e5 g5 e6 g6 e7 g7 e8 g8 e9 g9 e10 g10
       generalize (((((((((((W10.drew).setCell ⟨w.heap.size,0,none⟩ (.int .i64 0)).setCell ⟨w.heap.size,1,none⟩ (.slice none 0 0)).setCell ⟨w.heap.size,2,none⟩ (.slice none 0 0)).setCell ⟨w.heap.size,3,none⟩ (.slice none 0 0)).setCell ⟨w.heap.size,4,none⟩ (.slice none 0 0)).setCell ⟨w.heap.size,5,none⟩ (.slice none 0 0)).setCell ⟨w.heap.size,6,none⟩ (.slice none 0 0)).setCell ⟨w.heap.size,7,none⟩ (.slice none 0 0)).setCell ⟨w.heap.size,8,none⟩ (.slice none 0 0)).setCell ⟨w.heap.size,9,none⟩ (.slice none 0 0)).setCell ⟨w.heap.size,10,none⟩ (.slice none 0 0) = W3 at h3 hF3 hL3 hHeld2 ⊢
       have d0:=bC_ hF3 0
       have d1:=bC_ hF3 1
       have q0':=bF_ hF3 0
       have q1':=bF_ hF3 1
       refine last_ (i:=7) (N:=none) (zA_ 8 255) rfl rfl (by kernel_rfl) (by decide) (fun K hK => ?_)
       refine skip_ (w1:=(W3.setCell ⟨w.heap.size + 1,0,none⟩ (.int .i64 (x : Int))).setCell ⟨w.heap.size + 1,1,none⟩ (.int .i64 42)) rfl rfl ?_ ?_
       ·go_simp
       refine hK.out _ _ ?_
       clear hK K
       have h4 : RdS w _ x0S nilVS (x : Int) 42:=RdS.setF h3 (x : Int) 42
       clear d0 d1 q0' q1' h3 hF3 hL3 hHeld2 hC0 hR0
       generalize (W3.setCell ⟨w.heap.size + 1,0,none⟩ (.int .i64 (x : Int))).setCell ⟨w.heap.size + 1,1,none⟩ (.int .i64 42) = W4 at h4 ⊢
       refine done_ (by kernel_rfl) ?_
       refine ⟨rfl,?_⟩
       rename_i hKK
       refine hKK _ _ ?_
       have H4:=A0_.mk h4
       clear hKK h4
       go_wp2
       exact readB_results H4.out rfl rfl
      |ok q =>
       have HFG:=A0_.mk (show (match gatesB s (m1 + m2) m4 q with
        |.error e => (x0S,(e : Int),52)
        |.ok (l,r) => readEnd ⟨(m0 : Int),inputsB m1,l2,l3,l4,l5,l6,l7,l,[],[]⟩ (tailF s r)) = FIN from HF)
       clear HF
       have b2 : W10.cell? ⟨R,2,none⟩ = some (.int .i64 (-1)):=bC_ HB10.out.ss.1 2
       go_upto_region 21 with (fail)
       clear b2
       have hw12 : IntKind.i64.wrap ((m1 : Int) + (m2 : Int)) = (m1 : Int) + (m2 : Int):=by have:=HM.out;rw [IntKind.wrap_i64];omega
       have HBd:=A0_.mk (HB10.out.below (below_drew (Below.refl W10.heap.size W10)))
       clear HB10
       have hGA:=gatesAny (a0:=m1 + m2) (n:=m4) HBd.out.ss.1 HBd.out.ss.2 HS.out (by have:=HM.out;omega) (by have:=HM.out;omega)
       rw [Int.natCast_add] at hGA
       have HGA:=A0_.mk hGA
       clear hGA
       refine wp_normal' ?_
       refine start_ (n:=14) (S:=fun w' => w'.cell? ⟨g,1,none⟩ = some (.int .i64 (m1 : Int)) ∧ w'.cell? ⟨g,2,none⟩ = some (.int .i64 (m2 : Int)) ∧ w'.cell? ⟨g,4,none⟩ = some (.int .i64 (m4 : Int))) (ds:=[13]) (Array.replicate 14 false) (by kernel_rfl) rfl rfl ⟨HBd.out.cell rfl 1 (by decide),HBd.out.cell rfl 2 (by decide),HBd.out.cell rfl 4 (by decide)⟩ (fun hHeld => ?_)
       refine pure_ (i:=0) (N:=some 122) (v:=?_) (a':=?_) (zA_ 14 1) rfl rfl (by kernel_rfl) (fun _ _ _ h => by cases h.1) (Or.inl ⟨by rfl,?_⟩) ?_ ?_
       rotate_left
       ·intro w'
        go_simp
        with_reducible rfl
       rotate_left
       ·simp only [Act.put,sA_,sB_,sC_]
        rfl
       refine pure_ (i:=1) (N:=some 123) (v:=?_) (a':=?_) (zA_ 14 3) rfl rfl (by kernel_rfl) (fun _ _ _ h => by cases h.1) (Or.inl ⟨by rfl,?_⟩) ?_ ?_
       rotate_left
       ·intro w'
        go_simp
        with_reducible rfl
       rotate_left
       ·simp only [Act.put,sA_,sB_,sC_]
        rfl
       refine pure_ (i:=2) (N:=some 124) (v:=?_) (a':=?_) (zA_ 14 7) rfl rfl (by kernel_rfl) (fun _ _ _ h => by cases h.1) (Or.inl ⟨by rfl,?_⟩) ?_ ?_
       rotate_left
       ·intro w'
        go_simp
        with_reducible rfl
       rotate_left
       ·simp only [Act.put,sA_,sB_,sC_]
        rfl
       refine take_ (i:=3) (N:=some 125) (v:=?_) (a':=?_) (zA_ 14 15) rfl rfl (by kernel_rfl) (fun _ _ _ h => by cases h.1) (Or.inl ⟨by rfl,?_⟩) hHeld ?_ ?_
       rotate_left
       ·intro w' s0
        obtain ⟨s0_,s1_,s2_⟩:=s0
        go_simp
        with_reducible rfl
       rotate_left
       ·simp only [Act.put,sA_,sB_,sC_]
        rfl
       refine pure_ (i:=4) (N:=some 126) (v:=?_) (a':=?_) (zA_ 14 31) rfl rfl (by kernel_rfl) (fun _ _ _ h => by cases h.1) (Or.inl ⟨by rfl,?_⟩) ?_ ?_
       rotate_left
       ·intro w'
        go_simp
        with_reducible rfl
       rotate_left
       ·simp only [Act.put,sA_,sB_,sC_]
        rfl
       refine pure_ (i:=5) (N:=some 127) (v:=?_) (a':=?_) (zA_ 14 63) rfl rfl (by kernel_rfl) (fun _ _ _ h => by cases h.1) (Or.inl ⟨by rfl,?_⟩) ?_ ?_
       rotate_left
       ·intro w'
        go_simp
        with_reducible rfl
       rotate_left
       ·simp only [Act.put,sA_,sB_,sC_]
        rfl
       refine take_ (i:=6) (N:=some 128) (v:=?_) (a':=?_) (zA_ 14 127) rfl rfl (by kernel_rfl) (fun _ _ _ h => by cases h.1) (Or.inl ⟨by rfl,?_⟩) hHeld ?_ ?_
       rotate_left
       ·intro w' s0
        obtain ⟨s0_,s1_,s2_⟩:=s0
        go_simp
        with_reducible rfl
       rotate_left
       ·simp only [Act.put,sA_,sB_,sC_]
        rfl
       refine pure_ (i:=7) (N:=some 129) (v:=?_) (a':=?_) (zA_ 14 255) rfl rfl (by kernel_rfl) (fun _ _ _ h => by cases h.1) (Or.inl ⟨by rfl,?_⟩) ?_ ?_
       rotate_left
       ·intro w'
        go_simp
        with_reducible rfl
       rotate_left
       ·simp only [Act.put,sA_,sB_,sC_]
        rfl
       refine pure_ (i:=8) (N:=some 130) (v:=?_) (a':=?_) (zA_ 14 511) rfl rfl (by kernel_rfl) (fun _ _ _ h => by cases h.1) (Or.inl ⟨by rfl,?_⟩) ?_ ?_
       rotate_left
       ·intro w'
        go_simp
        with_reducible rfl
       rotate_left
       ·simp only [Act.put,sA_,sB_,sC_]
        rfl
       refine pure_ (i:=9) (N:=some 131) (v:=?_) (a':=?_) (zA_ 14 1023) rfl rfl (by kernel_rfl) (fun _ _ _ h => by cases h.1) (Or.inl ⟨by rfl,?_⟩) ?_ ?_
       rotate_left
       ·intro w'
        go_simp
        with_reducible rfl
       rotate_left
       ·simp only [Act.put,sA_,sB_,sC_]
        rfl
       refine take_ (i:=10) (N:=some 132) (v:=?_) (a':=?_) (zA_ 14 2047) rfl rfl (by kernel_rfl) (fun _ _ _ h => by cases h.1) (Or.inl ⟨by rfl,?_⟩) hHeld ?_ ?_
       rotate_left
       ·intro w' s0
        obtain ⟨s0_,s1_,s2_⟩:=s0
        go_simp
        with_reducible rfl
       rotate_left
       ·simp only [Act.put,sA_,sB_,sC_]
        rfl
       refine one_ (i:=11) (N:=some 133) (zA_ 14 4095) rfl rfl (by kernel_rfl) (by decide) (fun K hK => ?_)
       refine goes_ Tryz.func22 (by kernel_rfl) rfl #[.pointer (some ⟨R,0,none⟩),.int .i64 ((m1 : Int) + (m2 : Int)),.int .i64 (m4 : Int)] (by rfl) rfl rfl (by (try simp only [List.map_toArray,List.map_cons,List.map_nil]);first|done|rfl) ?_
       refine HGA.out.mono ?_
       rintro e W11 ⟨v8,l8,rfl,hr,hs,hk,hq⟩
       obtain ⟨A8,c8,rfl⟩:=Kd.R_slice hr
       have HB11:=A0_.mk (HBd.out.kr hk hs)
       have HR8:=A0_.mk (Kd.R_lower hr HBd.out.rs.be.size)
       have HQ8:=A0_.mk hq
       refine ⟨_,rfl,hK.out _ _ ⟨HB11.out.cell rfl 1 (by decide),HB11.out.cell rfl 2 (by decide),HB11.out.cell rfl 4 (by decide)⟩ (fun hHeld2 => ?_)⟩
       clear hK K hr hs hk hq hHeld2 hHeld
       refine norm_ (a':=?_) ?_ ?_
       rotate_left
       ·show Act.put _ (some 133) _ = _
        simp only [Act.put,sA_,sB_,sC_]
        rfl
       refine pure_ (i:=12) (N:=some 134) (v:=?_) (a':=?_) (zA_ 14 8191) rfl rfl (by kernel_rfl) (fun _ _ _ h => by cases h.1) (Or.inl ⟨by rfl,?_⟩) ?_ ?_
       rotate_left
       ·intro w'
        go_simp
        with_reducible rfl
       rotate_left
       ·simp only [Act.put,sA_,sB_,sC_]
        rfl
       have e8 : W11.cell? ⟨cb,8,none⟩ = some (.slice none 0 0):=bC_ HB11.out.blk 8
       have z8:=bF_ HB11.out.blk 8
       refine last_ (i:=13) (N:=none) (zA_ 14 16383) rfl rfl (by kernel_rfl) (by decide) (fun K hK => ?_)
       refine skip_ (w1:=W11.setCell ⟨cb,8,none⟩ (.slice A8 l8.length c8)) rfl rfl ?_ ?_
       ·go_simp
       refine hK.out _ _ ?_
       clear hK K
       refine done_ (by kernel_rfl) ?_
       refine ⟨rfl,?_⟩
       rename_i hKK
       refine hKK _ _ ?_
       clear hKK e8 z8 hw12
       have HB12:=A0_.mk (HB11.out.put8 HR8.out)
       dsimp only at HB12
       clear HB11 HR8 HBd
       generalize W11.setCell ⟨cb,8,none⟩ (.slice A8 l8.length c8) = W12 at HB12 ⊢
       cases hgt : gatesB s (m1 + m2) m4 q with
       |error x =>
        have hf:=HFG.out
        rw [hgt] at hf
        dsimp only at hf
        subst hf
        have hb12:=HB12.out
        rw [hgt] at hb12
        replace HB12:=A0_.mk hb12
        clear HFG hb12 hgt HJL HQ8 HGA
        obtain ⟨q',hsd⟩:=HB12.out.ss
        have hL0 : W12.heap[R]? = some (.cells #[.string s,.int .i64 (q' : Int),.int .i64 (x : Int)] 47 (0,0)):=hsd
        have b2 : W12.cell? ⟨R,2,none⟩ = some (.int .i64 (x : Int)):=bC_ hL0 2
        have hd : decide ((0 : Int) ≤ (x : Int)) = true:=decide_eq_true (by omega)
        go_upto_region 23 with (fail)
        clear b2 hd hsd
        have ho1:=HB12.out.o1
        have ho2:=HB12.out.o2
        have ho3:=HB12.out.o3
        have hR0:=HB12.out.rs
        have hC0:=hR0.C
        have e0 : W12.cell? ⟨w.heap.size,0,none⟩ = some (.int .i64 0):=bC_ hC0 0
        have g0:=bF_ hC0 0
        have e1 : W12.cell? ⟨w.heap.size,1,none⟩ = some (.slice none 0 0):=bC_ hC0 1
        have g1:=bF_ hC0 1
        have e2 : W12.cell? ⟨w.heap.size,2,none⟩ = some (.slice none 0 0):=bC_ hC0 2
        have g2:=bF_ hC0 2
        have e3 : W12.cell? ⟨w.heap.size,3,none⟩ = some (.slice none 0 0):=bC_ hC0 3
        have g3:=bF_ hC0 3
        have e4 : W12.cell? ⟨w.heap.size,4,none⟩ = some (.slice none 0 0):=bC_ hC0 4
        have g4:=bF_ hC0 4
        have e5 : W12.cell? ⟨w.heap.size,5,none⟩ = some (.slice none 0 0):=bC_ hC0 5
        have g5:=bF_ hC0 5
        have e6 : W12.cell? ⟨w.heap.size,6,none⟩ = some (.slice none 0 0):=bC_ hC0 6
        have g6:=bF_ hC0 6
        have e7 : W12.cell? ⟨w.heap.size,7,none⟩ = some (.slice none 0 0):=bC_ hC0 7
        have g7:=bF_ hC0 7
        have e8 : W12.cell? ⟨w.heap.size,8,none⟩ = some (.slice none 0 0):=bC_ hC0 8
        have g8:=bF_ hC0 8
        have e9 : W12.cell? ⟨w.heap.size,9,none⟩ = some (.slice none 0 0):=bC_ hC0 9
        have g9:=bF_ hC0 9
        have e10 : W12.cell? ⟨w.heap.size,10,none⟩ = some (.slice none 0 0):=bC_ hC0 10
        have g10:=bF_ hC0 10
        refine wp_normal' ?_
        refine start_ (n:=8) (S:=fun w' => w'.cell? ⟨R,2,none⟩ = some (.int .i64 (x : Int))) (ds:=[7]) (Array.replicate 8 false) (by kernel_rfl) rfl rfl (bC_ hL0 2) (fun hHeld => ?_)
        refine pure_ (i:=0) (N:=some 140) (v:=?_) (a':=?_) (zA_ 8 1) rfl rfl (by kernel_rfl) (fun _ _ _ h => by cases h.1) (Or.inl ⟨by rfl,?_⟩) ?_ ?_
        rotate_left
        ·intro w'
         go_simp
         with_reducible rfl
        rotate_left
        ·simp only [Act.put,sA_,sB_,sC_]
         rfl
        refine pure_ (i:=1) (N:=some 141) (v:=?_) (a':=?_) (zA_ 8 3) rfl rfl (by kernel_rfl) (fun _ _ _ h => by cases h.1) (Or.inl ⟨by rfl,?_⟩) ?_ ?_
        rotate_left
        ·intro w'
         go_simp
         with_reducible rfl
        rotate_left
        ·simp only [Act.put,sA_,sB_,sC_]
         rfl
        refine pure_ (i:=2) (N:=some 142) (v:=?_) (a':=?_) (zA_ 8 7) rfl rfl (by kernel_rfl) (fun _ _ _ h => by cases h.1) (Or.inl ⟨by rfl,?_⟩) ?_ ?_
        rotate_left
        ·intro w'
         go_simp
         with_reducible rfl
        rotate_left
        ·simp only [Act.put,sA_,sB_,sC_]
         rfl
        refine pure_ (i:=3) (N:=some 143) (v:=?_) (a':=?_) (zA_ 8 15) rfl rfl (by kernel_rfl) (fun _ _ _ h => by cases h.1) (Or.inl ⟨by rfl,?_⟩) ?_ ?_
        rotate_left
        ·intro w'
         go_simp
         with_reducible rfl
        rotate_left
        ·simp only [Act.put,sA_,sB_,sC_]
         rfl
        refine take_ (i:=4) (N:=some 144) (v:=?_) (a':=?_) (zA_ 8 31) rfl rfl (by kernel_rfl) (fun _ _ _ h => by cases h.1) (Or.inl ⟨by rfl,?_⟩) hHeld ?_ ?_
        rotate_left
        ·intro w' s0
         have s0_:=s0
         go_simp
         with_reducible rfl
        rotate_left
        ·simp only [Act.put,sA_,sB_,sC_]
         rfl
        refine pure_ (i:=5) (N:=some 145) (v:=?_) (a':=?_) (zA_ 8 63) rfl rfl (by kernel_rfl) (fun _ _ _ h => by cases h.1) (Or.inl ⟨by rfl,?_⟩) ?_ ?_
        rotate_left
        ·intro w'
         go_simp
         with_reducible rfl
        rotate_left
        ·simp only [Act.put,sA_,sB_,sC_]
         rfl
        refine one_ (i:=6) (N:=none) (zA_ 8 127) rfl rfl (by kernel_rfl) (by decide) (fun K hK => ?_)
        refine skip_ (w1:=(((((((((((W12.drew).setCell ⟨w.heap.size,0,none⟩ (.int .i64 0)).setCell ⟨w.heap.size,1,none⟩ (.slice none 0 0)).setCell ⟨w.heap.size,2,none⟩ (.slice none 0 0)).setCell ⟨w.heap.size,3,none⟩ (.slice none 0 0)).setCell ⟨w.heap.size,4,none⟩ (.slice none 0 0)).setCell ⟨w.heap.size,5,none⟩ (.slice none 0 0)).setCell ⟨w.heap.size,6,none⟩ (.slice none 0 0)).setCell ⟨w.heap.size,7,none⟩ (.slice none 0 0)).setCell ⟨w.heap.size,8,none⟩ (.slice none 0 0)).setCell ⟨w.heap.size,9,none⟩ (.slice none 0 0)).setCell ⟨w.heap.size,10,none⟩ (.slice none 0 0)) rfl rfl ?_ ?_
        ·go_simp
        have h3:=(hR0.below (below_drew (Below.refl W12.heap.size W12))).setC (rows_nil W12.drew w.heap.size)
        dsimp only [nilVS,x0S] at h3
        have hF3:=h3.F
        have hL3:=far11 (keep_below hL0 (below_drew (Below.refl W12.heap.size W12))) (S:=w.heap.size) (by omega) (.int .i64 0) (.slice none 0 0) (.slice none 0 0) (.slice none 0 0) (.slice none 0 0) (.slice none 0 0) (.slice none 0 0) (.slice none 0 0) (.slice none 0 0) (.slice none 0 0) (.slice none 0 0)
        refine hK.out _ _ (bC_ hL3 2) (fun hHeld2 => ?_)
        clear hK K hHeld e0 g0 e1 g1 e2 g2 e3 g3 e4 g4 e5 g5 e6 g6 e7 g7 e8 g8 e9 g9 e10 g10
        generalize (((((((((((W12.drew).setCell ⟨w.heap.size,0,none⟩ (.int .i64 0)).setCell ⟨w.heap.size,1,none⟩ (.slice none 0 0)).setCell ⟨w.heap.size,2,none⟩ (.slice none 0 0)).setCell ⟨w.heap.size,3,none⟩ (.slice none 0 0)).setCell ⟨w.heap.size,4,none⟩ (.slice none 0 0)).setCell ⟨w.heap.size,5,none⟩ (.slice none 0 0)).setCell ⟨w.heap.size,6,none⟩ (.slice none 0 0)).setCell ⟨w.heap.size,7,none⟩ (.slice none 0 0)).setCell ⟨w.heap.size,8,none⟩ (.slice none 0 0)).setCell ⟨w.heap.size,9,none⟩ (.slice none 0 0)).setCell ⟨w.heap.size,10,none⟩ (.slice none 0 0) = W3 at h3 hF3 hL3 hHeld2 ⊢
        have d0:=bC_ hF3 0
        have d1:=bC_ hF3 1
        have q0':=bF_ hF3 0
        have q1':=bF_ hF3 1
        refine last_ (i:=7) (N:=none) (zA_ 8 255) rfl rfl (by kernel_rfl) (by decide) (fun K hK => ?_)
        refine skip_ (w1:=(W3.setCell ⟨w.heap.size + 1,0,none⟩ (.int .i64 (x : Int))).setCell ⟨w.heap.size + 1,1,none⟩ (.int .i64 52)) rfl rfl ?_ ?_
        ·go_simp
        refine hK.out _ _ ?_
        clear hK K
        have h4 : RdS w _ x0S nilVS (x : Int) 52:=RdS.setF h3 (x : Int) 52
        clear d0 d1 q0' q1' h3 hF3 hL3 hHeld2 hC0 hR0
        generalize (W3.setCell ⟨w.heap.size + 1,0,none⟩ (.int .i64 (x : Int))).setCell ⟨w.heap.size + 1,1,none⟩ (.int .i64 52) = W4 at h4 ⊢
        refine done_ (by kernel_rfl) ?_
        refine ⟨rfl,?_⟩
        rename_i hKK
        refine hKK _ _ ?_
        have H4:=A0_.mk h4
        clear hKK h4
        go_wp2
        exact readB_results H4.out rfl rfl
       |ok lr =>
        obtain ⟨l8',r⟩:=lr
        have hf:=HFG.out
        rw [hgt] at hf
        dsimp only at hf
        obtain rfl : l8 = l8':=HQ8.out _ _ hgt
        have hb12:=HB12.out
        rw [hgt] at hb12
        replace HB12:=A0_.mk (show BR w W12 g n1 gT cb R ([(m0 : Int),m1,m2,m3,m4,m5,m6,m7,m8] : List Int) s (.ok r) ⟨(m0 : Int),inputsB m1,l2,l3,l4,l5,l6,l7,l8,[],[]⟩ _ from hb12)
        have HJ6:=A0_.mk (HJL.out q rfl)
        clear HFG hb12 hgt HJL HQ8 HGA
        have b2 : W12.cell? ⟨R,2,none⟩ = some (.int .i64 (-1)):=bC_ HB12.out.ss.1 2
        go_upto_region 24 with (fail)
        clear b2
        obtain ⟨t1,t2,ta,tc,ht⟩ : ∃ a b c d,tailF s r = (a,b,c,d):=⟨_,_,_,_,rfl⟩
        have hts:=tailF_size s r HS.out
        have hfc:=tail_zero s r
        have hT:=tail_calls (GV_below HG.out HB12.out.rs.be) HB12.out.ss.2 HS.out
        rw [ht] at hT hts hfc hf
        have HT:=A0_.mk hT
        have HTS:=A0_.mk hts
        have HTZ:=A0_.mk hfc
        have HFF:=A0_.mk hf
        clear ht hT hts hfc hf
        have b1 : W12.cell? ⟨R,1,none⟩ = some (.int .i64 (r : Int)):=bC_ HB12.out.ss.1 1
        go_upto_region 25 with (first|(go_at_call 23;refine HT.out.mono ?_;rintro e Wt ⟨v9,v10,rfl,hr0,hr1,hb⟩;obtain ⟨A9,c9,rfl⟩:=Kd.R_slice hr0;obtain ⟨A10,c10,rfl⟩:=Kd.R_slice hr1;have HBt:=A0_.mk (HB12.out.below hb);have HR9:=A0_.mk (Kd.R_lower hr0 HB12.out.rs.be.size);have HR10:=A0_.mk (Kd.R_lower hr1 HB12.out.rs.be.size);have e9 : Wt.cell? ⟨cb,9,none⟩ = some (.slice none 0 0):=bC_ HBt.out.blk 9;have z9:=bF_ HBt.out.blk 9;have e10 : Wt.cell? ⟨cb,10,none⟩ = some (.slice none 0 0):=bC_ HBt.out.blk 10;have z10:=bF_ HBt.out.blk 10;have y0:=bC_ HBt.out.tb 0;have y1:=bC_ HBt.out.tb 1;have x0:=bF_ HBt.out.tb 0;have x1:=bF_ HBt.out.tb 1;clear hr0 hr1 hb))
        have HB13:=A0_.mk (((HBt.out.put9 HR9.out).put10 (Kd.R_set HR10.out HBt.out.blk (by decide) 9 (.slice A9 t1.length c9))).setT ta tc)
        dsimp only at HB13
        clear b1 e9 z9 e10 z10 y0 y1 x0 x1 HBt HR9 HR10 HB12
        generalize ((((Wt.setCell ⟨cb,9,none⟩ (.slice A9 t1.length c9)).setCell ⟨cb,10,none⟩ (.slice A10 t2.length c10)).setCell ⟨gT,0,none⟩ (.int .i64 ta)).setCell ⟨gT,1,none⟩ (.int .i64 tc)) = W13 at HB13 ⊢
        have hL0:=HB13.out.tb
        have y0 : W13.cell? ⟨gT,0,none⟩ = some (.int .i64 ta):=bC_ hL0 0
        have y1 : W13.cell? ⟨gT,1,none⟩ = some (.int .i64 tc):=bC_ hL0 1
        by_cases ct : tc = 0
        ·subst ct
         obtain rfl : ta = 0:=HTZ.out rfl
         have hf:=HFF.out
         unfold readEnd at hf
         dsimp only at hf
         rw [if_neg (by decide)] at hf
         clear HTZ HFF
         go_upto_region 27 with (fail)
         clear y0 y1 hL0
         have hCR : CR W13 ⟨(m0 : Int),inputsB m1,l2,l3,l4,l5,l6,l7,l8,t1,t2⟩ ⟨A1,A2,A3,A4,A5,A6,A7,A8,A9,A10,c1,c2,c3,c4,c5,c6,c7,c8,c9,c10⟩:=⟨(Kd.R_reads' HB13.out.rows.r1).2.2,(Kd.R_reads' HB13.out.rows.r2).2.2,(Kd.R_reads' HB13.out.rows.r3).2.2,(Kd.R_reads' HB13.out.rows.r4).2.2,(Kd.R_reads' HB13.out.rows.r5).2.2,(Kd.R_reads' HB13.out.rows.r6).2.2,(Kd.R_reads' HB13.out.rows.r7).2.2,(Kd.R_reads' HB13.out.rows.r8).2.2,(Kd.R_reads' HB13.out.rows.r9).2.2,(Kd.R_reads' HB13.out.rows.r10).2.2⟩
         have hCap : Caps ⟨(m0 : Int),inputsB m1,l2,l3,l4,l5,l6,l7,l8,t1,t2⟩ ⟨A1,A2,A3,A4,A5,A6,A7,A8,A9,A10,c1,c2,c3,c4,c5,c6,c7,c8,c9,c10⟩:=⟨(Kd.R_reads' HB13.out.rows.r1).2.1,(Kd.R_reads' HB13.out.rows.r2).2.1,(Kd.R_reads' HB13.out.rows.r3).2.1,(Kd.R_reads' HB13.out.rows.r4).2.1,(Kd.R_reads' HB13.out.rows.r5).2.1,(Kd.R_reads' HB13.out.rows.r6).2.1,(Kd.R_reads' HB13.out.rows.r7).2.1,(Kd.R_reads' HB13.out.rows.r8).2.1,(Kd.R_reads' HB13.out.rows.r9).2.1,(Kd.R_reads' HB13.out.rows.r10).2.1⟩
         have hCK:=check_calls hCR hCap (fun r hr => by have:=HJ6.out r hr;omega) (fun x hx => by have:=HTS.out x hx;omega)
         obtain ⟨y1,y2,hy⟩ : ∃ y1 y2,lookF ⟨(m0 : Int),inputsB m1,l2,l3,l4,l5,l6,l7,l8,t1,t2⟩ = (y1,y2):=⟨_,_,rfl⟩
         rw [hy] at hCK hf
         dsimp only [cellsC] at hCK hf
         have HCK:=A0_.mk hCK
         clear hCR hCap hCK hy
         have k0 : W13.cell? ⟨cb,0,none⟩ = some (.int .i64 (m0 : Int)):=bC_ HB13.out.blk 0
         have k1 : W13.cell? ⟨cb,1,none⟩ = some (.slice A1 (inputsB m1).length c1):=bC_ HB13.out.blk 1
         have k2 : W13.cell? ⟨cb,2,none⟩ = some (.slice A2 l2.length c2):=bC_ HB13.out.blk 2
         have k3 : W13.cell? ⟨cb,3,none⟩ = some (.slice A3 l3.length c3):=bC_ HB13.out.blk 3
         have k4 : W13.cell? ⟨cb,4,none⟩ = some (.slice A4 l4.length c4):=bC_ HB13.out.blk 4
         have k5 : W13.cell? ⟨cb,5,none⟩ = some (.slice A5 l5.length c5):=bC_ HB13.out.blk 5
         have k6 : W13.cell? ⟨cb,6,none⟩ = some (.slice A6 l6.length c6):=bC_ HB13.out.blk 6
         have k7 : W13.cell? ⟨cb,7,none⟩ = some (.slice A7 l7.length c7):=bC_ HB13.out.blk 7
         have k8 : W13.cell? ⟨cb,8,none⟩ = some (.slice A8 l8.length c8):=bC_ HB13.out.blk 8
         have k9 : W13.cell? ⟨cb,9,none⟩ = some (.slice A9 t1.length c9):=bC_ HB13.out.blk 9
         have k10 : W13.cell? ⟨cb,10,none⟩ = some (.slice A10 t2.length c10):=bC_ HB13.out.blk 10
         by_cases cy : y2 = 0
         ·subst cy
          rw [if_neg (by decide)] at hf
          subst hf
          clear HJ6 HTS
          go_upto_region 30 with (first|(go_at_call 24;refine HCK.out.mono ?_;rintro e w9 ⟨rfl,hb⟩;have H9:=A0_.mk (HB13.out.below hb);clear hb))
          clear k0 k1 k2 k3 k4 k5 k6 k7 k8 k9 k10
          have h9:=H9.out.rs
          have j0 : w9.cell? ⟨cb,0,none⟩ = some (.int .i64 (m0 : Int)):=bC_ H9.out.blk 0
          have j1 : w9.cell? ⟨cb,1,none⟩ = some (.slice A1 (inputsB m1).length c1):=bC_ H9.out.blk 1
          have j2 : w9.cell? ⟨cb,2,none⟩ = some (.slice A2 l2.length c2):=bC_ H9.out.blk 2
          have j3 : w9.cell? ⟨cb,3,none⟩ = some (.slice A3 l3.length c3):=bC_ H9.out.blk 3
          have j4 : w9.cell? ⟨cb,4,none⟩ = some (.slice A4 l4.length c4):=bC_ H9.out.blk 4
          have j5 : w9.cell? ⟨cb,5,none⟩ = some (.slice A5 l5.length c5):=bC_ H9.out.blk 5
          have j6 : w9.cell? ⟨cb,6,none⟩ = some (.slice A6 l6.length c6):=bC_ H9.out.blk 6
          have j7 : w9.cell? ⟨cb,7,none⟩ = some (.slice A7 l7.length c7):=bC_ H9.out.blk 7
          have j8 : w9.cell? ⟨cb,8,none⟩ = some (.slice A8 l8.length c8):=bC_ H9.out.blk 8
          have j9 : w9.cell? ⟨cb,9,none⟩ = some (.slice A9 t1.length c9):=bC_ H9.out.blk 9
          have j10 : w9.cell? ⟨cb,10,none⟩ = some (.slice A10 t2.length c10):=bC_ H9.out.blk 10
          have e0 : w9.cell? ⟨w.heap.size,0,none⟩ = some (.int .i64 0):=bC_ h9.C 0
          have g0:=bF_ h9.C 0
          have e1 : w9.cell? ⟨w.heap.size,1,none⟩ = some (.slice none 0 0):=bC_ h9.C 1
          have g1:=bF_ h9.C 1
          have e2 : w9.cell? ⟨w.heap.size,2,none⟩ = some (.slice none 0 0):=bC_ h9.C 2
          have g2:=bF_ h9.C 2
          have e3 : w9.cell? ⟨w.heap.size,3,none⟩ = some (.slice none 0 0):=bC_ h9.C 3
          have g3:=bF_ h9.C 3
          have e4 : w9.cell? ⟨w.heap.size,4,none⟩ = some (.slice none 0 0):=bC_ h9.C 4
          have g4:=bF_ h9.C 4
          have e5 : w9.cell? ⟨w.heap.size,5,none⟩ = some (.slice none 0 0):=bC_ h9.C 5
          have g5:=bF_ h9.C 5
          have e6 : w9.cell? ⟨w.heap.size,6,none⟩ = some (.slice none 0 0):=bC_ h9.C 6
          have g6:=bF_ h9.C 6
          have e7 : w9.cell? ⟨w.heap.size,7,none⟩ = some (.slice none 0 0):=bC_ h9.C 7
          have g7:=bF_ h9.C 7
          have e8 : w9.cell? ⟨w.heap.size,8,none⟩ = some (.slice none 0 0):=bC_ h9.C 8
          have g8:=bF_ h9.C 8
          have e9 : w9.cell? ⟨w.heap.size,9,none⟩ = some (.slice none 0 0):=bC_ h9.C 9
          have g9:=bF_ h9.C 9
          have e10 : w9.cell? ⟨w.heap.size,10,none⟩ = some (.slice none 0 0):=bC_ h9.C 10
          have g10:=bF_ h9.C 10
          have d0:=bC_ h9.F 0
          have d1:=bC_ h9.F 1
          have q0:=bF_ h9.F 0
          have q1:=bF_ h9.F 1
          have h10:=h9.setC H9.out.rows
          dsimp only at h10
          have h11:=RdS.setF h10 0 0
          have H11:=A0_.mk h11
          clear h9 h10 h11
          go_wp2
          exact readB_results H11.out rfl rfl
         ·rw [if_pos cy] at hf
          subst hf
          have cyb : (y2 == 0) = false:=beq_eq_false_iff_ne.mpr cy
          have HCY:=A0_.mk cy
          clear cy HJ6 HTS
          go_upto_region 29 with (first|(go_at_call 24;refine HCK.out.mono ?_;rintro e w9 ⟨rfl,hb⟩;have H9:=A0_.mk (HB13.out.below hb);clear hb))
          clear k0 k1 k2 k3 k4 k5 k6 k7 k8 k9 k10
          have h9:=H9.out.rs
          have e0 : w9.cell? ⟨w.heap.size,0,none⟩ = some (.int .i64 0):=bC_ h9.C 0
          have g0:=bF_ h9.C 0
          have e1 : w9.cell? ⟨w.heap.size,1,none⟩ = some (.slice none 0 0):=bC_ h9.C 1
          have g1:=bF_ h9.C 1
          have e2 : w9.cell? ⟨w.heap.size,2,none⟩ = some (.slice none 0 0):=bC_ h9.C 2
          have g2:=bF_ h9.C 2
          have e3 : w9.cell? ⟨w.heap.size,3,none⟩ = some (.slice none 0 0):=bC_ h9.C 3
          have g3:=bF_ h9.C 3
          have e4 : w9.cell? ⟨w.heap.size,4,none⟩ = some (.slice none 0 0):=bC_ h9.C 4
          have g4:=bF_ h9.C 4
          have e5 : w9.cell? ⟨w.heap.size,5,none⟩ = some (.slice none 0 0):=bC_ h9.C 5
          have g5:=bF_ h9.C 5
          have e6 : w9.cell? ⟨w.heap.size,6,none⟩ = some (.slice none 0 0):=bC_ h9.C 6
          have g6:=bF_ h9.C 6
          have e7 : w9.cell? ⟨w.heap.size,7,none⟩ = some (.slice none 0 0):=bC_ h9.C 7
          have g7:=bF_ h9.C 7
          have e8 : w9.cell? ⟨w.heap.size,8,none⟩ = some (.slice none 0 0):=bC_ h9.C 8
          have g8:=bF_ h9.C 8
          have e9 : w9.cell? ⟨w.heap.size,9,none⟩ = some (.slice none 0 0):=bC_ h9.C 9
          have g9:=bF_ h9.C 9
          have e10 : w9.cell? ⟨w.heap.size,10,none⟩ = some (.slice none 0 0):=bC_ h9.C 10
          have g10:=bF_ h9.C 10
          have d0:=bC_ h9.F 0
          have d1:=bC_ h9.F 1
          have q0:=bF_ h9.F 0
          have q1:=bF_ h9.F 1
          have h10:=h9.setC (rows_nil w9 w.heap.size)
          dsimp only [nilVS,x0S] at h10
          have h11:=RdS.setF h10 0 y2
          have H11:=A0_.mk h11
          clear h9 h10 h11
          go_wp2
          exact readB_results H11.out rfl rfl
        ·have hf:=HFF.out
         unfold readEnd at hf
         dsimp only at hf
         rw [if_pos ct] at hf
         subst hf
         have ctb : (tc == 0) = false:=beq_eq_false_iff_ne.mpr ct
         have HCT:=A0_.mk ct
         clear ct HTZ HFF HTS HJ6
         go_upto_region 26 with (fail)
         clear y0 y1
         have ho1:=HB13.out.o1
         have hR0:=HB13.out.rs
         have hC0:=hR0.C
         have e0 : W13.cell? ⟨w.heap.size,0,none⟩ = some (.int .i64 0):=bC_ hC0 0
         have g0:=bF_ hC0 0
         have e1 : W13.cell? ⟨w.heap.size,1,none⟩ = some (.slice none 0 0):=bC_ hC0 1
         have g1:=bF_ hC0 1
         have e2 : W13.cell? ⟨w.heap.size,2,none⟩ = some (.slice none 0 0):=bC_ hC0 2
         have g2:=bF_ hC0 2
         have e3 : W13.cell? ⟨w.heap.size,3,none⟩ = some (.slice none 0 0):=bC_ hC0 3
         have g3:=bF_ hC0 3
         have e4 : W13.cell? ⟨w.heap.size,4,none⟩ = some (.slice none 0 0):=bC_ hC0 4
         have g4:=bF_ hC0 4
         have e5 : W13.cell? ⟨w.heap.size,5,none⟩ = some (.slice none 0 0):=bC_ hC0 5
         have g5:=bF_ hC0 5
         have e6 : W13.cell? ⟨w.heap.size,6,none⟩ = some (.slice none 0 0):=bC_ hC0 6
         have g6:=bF_ hC0 6
         have e7 : W13.cell? ⟨w.heap.size,7,none⟩ = some (.slice none 0 0):=bC_ hC0 7
         have g7:=bF_ hC0 7
         have e8 : W13.cell? ⟨w.heap.size,8,none⟩ = some (.slice none 0 0):=bC_ hC0 8
         have g8:=bF_ hC0 8
         have e9 : W13.cell? ⟨w.heap.size,9,none⟩ = some (.slice none 0 0):=bC_ hC0 9
         have g9:=bF_ hC0 9
         have e10 : W13.cell? ⟨w.heap.size,10,none⟩ = some (.slice none 0 0):=bC_ hC0 10
         have g10:=bF_ hC0 10
         refine wp_normal' ?_
         refine start_ (n:=4) (S:=fun w' => w'.cell? ⟨gT,0,none⟩ = some (.int .i64 ta) ∧ w'.cell? ⟨gT,1,none⟩ = some (.int .i64 tc)) (ds:=[3]) (Array.replicate 4 false) (by kernel_rfl) rfl rfl ⟨bC_ hL0 0,bC_ hL0 1⟩ (fun hHeld => ?_)
         refine pure_ (i:=0) (N:=some 161) (v:=?_) (a':=?_) (zA_ 4 1) rfl rfl (by kernel_rfl) (fun _ _ _ h => by cases h.1) (Or.inl ⟨by rfl,?_⟩) ?_ ?_
         rotate_left
         ·intro w'
          go_simp
          with_reducible rfl
         rotate_left
         ·simp only [Act.put,sA_,sB_,sC_]
          rfl
         refine take_ (i:=1) (N:=some 162) (v:=?_) (a':=?_) (zA_ 4 3) rfl rfl (by kernel_rfl) (fun _ _ _ h => by cases h.1) (Or.inl ⟨by rfl,?_⟩) hHeld ?_ ?_
         rotate_left
         ·intro w' s0
          obtain ⟨s0_,s1_⟩:=s0
          go_simp
          with_reducible rfl
         rotate_left
         ·simp only [Act.put,sA_,sB_,sC_]
          rfl
         refine one_ (i:=2) (N:=none) (zA_ 4 7) rfl rfl (by kernel_rfl) (by decide) (fun K hK => ?_)
         refine skip_ (w1:=(((((((((((W13.drew).setCell ⟨w.heap.size,0,none⟩ (.int .i64 0)).setCell ⟨w.heap.size,1,none⟩ (.slice none 0 0)).setCell ⟨w.heap.size,2,none⟩ (.slice none 0 0)).setCell ⟨w.heap.size,3,none⟩ (.slice none 0 0)).setCell ⟨w.heap.size,4,none⟩ (.slice none 0 0)).setCell ⟨w.heap.size,5,none⟩ (.slice none 0 0)).setCell ⟨w.heap.size,6,none⟩ (.slice none 0 0)).setCell ⟨w.heap.size,7,none⟩ (.slice none 0 0)).setCell ⟨w.heap.size,8,none⟩ (.slice none 0 0)).setCell ⟨w.heap.size,9,none⟩ (.slice none 0 0)).setCell ⟨w.heap.size,10,none⟩ (.slice none 0 0)) rfl rfl ?_ ?_
         ·go_simp
         have h3:=(hR0.below (below_drew (Below.refl W13.heap.size W13))).setC (rows_nil W13.drew w.heap.size)
         dsimp only [nilVS,x0S] at h3
         have hF3:=h3.F
         have hL3:=far11 (keep_below hL0 (below_drew (Below.refl W13.heap.size W13))) (S:=w.heap.size) (by omega) (.int .i64 0) (.slice none 0 0) (.slice none 0 0) (.slice none 0 0) (.slice none 0 0) (.slice none 0 0) (.slice none 0 0) (.slice none 0 0) (.slice none 0 0) (.slice none 0 0) (.slice none 0 0)
         refine hK.out _ _ ⟨bC_ hL3 0,bC_ hL3 1⟩ (fun hHeld2 => ?_)
         clear hK K hHeld e0 g0 e1 g1 e2 g2 e3 g3 e4 g4 e5 g5 e6 g6 e7 g7 e8 g8 e9 g9 e10 g10
         generalize (((((((((((W13.drew).setCell ⟨w.heap.size,0,none⟩ (.int .i64 0)).setCell ⟨w.heap.size,1,none⟩ (.slice none 0 0)).setCell ⟨w.heap.size,2,none⟩ (.slice none 0 0)).setCell ⟨w.heap.size,3,none⟩ (.slice none 0 0)).setCell ⟨w.heap.size,4,none⟩ (.slice none 0 0)).setCell ⟨w.heap.size,5,none⟩ (.slice none 0 0)).setCell ⟨w.heap.size,6,none⟩ (.slice none 0 0)).setCell ⟨w.heap.size,7,none⟩ (.slice none 0 0)).setCell ⟨w.heap.size,8,none⟩ (.slice none 0 0)).setCell ⟨w.heap.size,9,none⟩ (.slice none 0 0)).setCell ⟨w.heap.size,10,none⟩ (.slice none 0 0) = W3 at h3 hF3 hL3 hHeld2 ⊢
         have d0:=bC_ hF3 0
         have d1:=bC_ hF3 1
         have q0':=bF_ hF3 0
         have q1':=bF_ hF3 1
         refine last_ (i:=3) (N:=none) (zA_ 4 15) rfl rfl (by kernel_rfl) (by decide) (fun K hK => ?_)
         refine skip_ (w1:=(W3.setCell ⟨w.heap.size + 1,0,none⟩ (.int .i64 ta)).setCell ⟨w.heap.size + 1,1,none⟩ (.int .i64 tc)) rfl rfl ?_ ?_
         ·go_simp
         refine hK.out _ _ ?_
         clear hK K
         have h4 : RdS w _ x0S nilVS ta tc:=RdS.setF h3 ta tc
         clear d0 d1 q0' q1' h3 hF3 hL3 hHeld2 hC0 hR0
         generalize (W3.setCell ⟨w.heap.size + 1,0,none⟩ (.int .i64 ta)).setCell ⟨w.heap.size + 1,1,none⟩ (.int .i64 tc) = W4 at h4 ⊢
         refine done_ (by kernel_rfl) ?_
         refine ⟨rfl,?_⟩
         rename_i hKK
         refine hKK _ _ ?_
         have H4:=A0_.mk h4
         clear hKK h4
         go_wp2
         exact readB_results H4.out rfl rfl
   ·have hf:=HFIN.out
    rw [if_pos hm] at hf
    subst hf
    have hmb : ((m0 : Int) == (m1 : Int) + (m2 : Int) + (m4 : Int)) = false:=beq_eq_false_iff_ne.2 hm
    clear HFIN
    go_upto_region 7 with (fail)
    have e0 : W3.cell? ⟨w.heap.size,0,none⟩ = some (.int .i64 0):=bC_ h3.C 0
    have g0:=bF_ h3.C 0
    have e1 : W3.cell? ⟨w.heap.size,1,none⟩ = some (.slice none 0 0):=bC_ h3.C 1
    have g1:=bF_ h3.C 1
    have e2 : W3.cell? ⟨w.heap.size,2,none⟩ = some (.slice none 0 0):=bC_ h3.C 2
    have g2:=bF_ h3.C 2
    have e3 : W3.cell? ⟨w.heap.size,3,none⟩ = some (.slice none 0 0):=bC_ h3.C 3
    have g3:=bF_ h3.C 3
    have e4 : W3.cell? ⟨w.heap.size,4,none⟩ = some (.slice none 0 0):=bC_ h3.C 4
    have g4:=bF_ h3.C 4
    have e5 : W3.cell? ⟨w.heap.size,5,none⟩ = some (.slice none 0 0):=bC_ h3.C 5
    have g5:=bF_ h3.C 5
    have e6 : W3.cell? ⟨w.heap.size,6,none⟩ = some (.slice none 0 0):=bC_ h3.C 6
    have g6:=bF_ h3.C 6
    have e7 : W3.cell? ⟨w.heap.size,7,none⟩ = some (.slice none 0 0):=bC_ h3.C 7
    have g7:=bF_ h3.C 7
    have e8 : W3.cell? ⟨w.heap.size,8,none⟩ = some (.slice none 0 0):=bC_ h3.C 8
    have g8:=bF_ h3.C 8
    have e9 : W3.cell? ⟨w.heap.size,9,none⟩ = some (.slice none 0 0):=bC_ h3.C 9
    have g9:=bF_ h3.C 9
    have e10 : W3.cell? ⟨w.heap.size,10,none⟩ = some (.slice none 0 0):=bC_ h3.C 10
    have g10:=bF_ h3.C 10
    have d0:=bC_ h3.F 0
    have d1:=bC_ h3.F 1
    have q0:=bF_ h3.F 0
    have q1:=bF_ h3.F 1
    have h4:=h3.setC (rows_nil W3 w.heap.size)
    dsimp only [nilVS,x0S] at h4
    have h5 : RdS w _ x0S nilVS 0 41:=RdS.setF h4 0 41
    have H4:=A0_.mk h5
    clear h3 h4 h5
    go_wp2
    exact readB_results H4.out rfl rfl
  ·rw [if_pos ca]
   have cab:=bytes_ne ca
   clear ca hh hs hok
   go_enter Tryz.func7,Tryz.ntmps7
   go_upto_region 2 with (first|(go_at_call 18;refine HH.out.mono ?_;rintro e w1 ⟨v1,rfl,hr,hb⟩;obtain ⟨A1,n1,rfl⟩:=Kd.R_slice hr;have HRS1:=A0_.mk (HRS.out.below hb);have HR1:=A0_.mk (Kd.R_lower hr HRS.out.be.size);clear hr hb))
   have HLT1:=A0_.mk (blk_lt HRS1.out.F)
   have hbe:=eA_ (Below.refl w1.heap.size w1) (.cells #[.int .i64 0,.int .i64 0] 32)
   have h2:=HRS1.out.below hbe
   have hnr:=Kd.R_below HR1.out hbe
   have hL0:=blk_new w1 (.cells #[.int .i64 0,.int .i64 0] 32)
   clear hbe HRS1 HR1
   generalize w1.alloc (.cells #[.int .i64 0,.int .i64 0] 32) = W2 at h2 hnr hL0 ⊢
   generalize w1.heap.size = gT at HLT1 hL0 ⊢
   have hlt:=HLT1.out
   have f0 : W2.cell? ⟨gT,0,none⟩ = some (.int .i64 0):=bC_ hL0 0
   have f1 : W2.cell? ⟨gT,1,none⟩ = some (.int .i64 0):=bC_ hL0 1
   go_upto_region 5 with (fail)
   clear f0 f1
   have e0 : W2.cell? ⟨w.heap.size,0,none⟩ = some (.int .i64 0):=bC_ h2.C 0
   have g0:=bF_ h2.C 0
   have e1 : W2.cell? ⟨w.heap.size,1,none⟩ = some (.slice none 0 0):=bC_ h2.C 1
   have g1:=bF_ h2.C 1
   have e2 : W2.cell? ⟨w.heap.size,2,none⟩ = some (.slice none 0 0):=bC_ h2.C 2
   have g2:=bF_ h2.C 2
   have e3 : W2.cell? ⟨w.heap.size,3,none⟩ = some (.slice none 0 0):=bC_ h2.C 3
   have g3:=bF_ h2.C 3
   have e4 : W2.cell? ⟨w.heap.size,4,none⟩ = some (.slice none 0 0):=bC_ h2.C 4
   have g4:=bF_ h2.C 4
   have e5 : W2.cell? ⟨w.heap.size,5,none⟩ = some (.slice none 0 0):=bC_ h2.C 5
   have g5:=bF_ h2.C 5
   have e6 : W2.cell? ⟨w.heap.size,6,none⟩ = some (.slice none 0 0):=bC_ h2.C 6
   have g6:=bF_ h2.C 6
   have e7 : W2.cell? ⟨w.heap.size,7,none⟩ = some (.slice none 0 0):=bC_ h2.C 7
   have g7:=bF_ h2.C 7
   have e8 : W2.cell? ⟨w.heap.size,8,none⟩ = some (.slice none 0 0):=bC_ h2.C 8
   have g8:=bF_ h2.C 8
   have e9 : W2.cell? ⟨w.heap.size,9,none⟩ = some (.slice none 0 0):=bC_ h2.C 9
   have g9:=bF_ h2.C 9
   have e10 : W2.cell? ⟨w.heap.size,10,none⟩ = some (.slice none 0 0):=bC_ h2.C 10
   have g10:=bF_ h2.C 10
   have d0:=bC_ h2.F 0
   have d1:=bC_ h2.F 1
   have q0:=bF_ h2.F 0
   have q1:=bF_ h2.F 1
   have h3:=h2.setC (rows_nil W2 w.heap.size)
   dsimp only [nilVS,x0S] at h3
   have h4 : RdS w _ x0S nilVS 0 40:=RdS.setF h3 0 40
   have H4:=A0_.mk h4
   clear h2 h3 h4
   go_wp2
   exact readB_results H4.out rfl rfl
 ·rw [if_pos c0]
  have c0b : (code == 0) = false:=beq_eq_false_iff_ne.mpr c0
  have HC0:=A0_.mk c0
  clear c0 hh hs
  go_enter Tryz.func7,Tryz.ntmps7
  go_upto_region 2 with (first|(go_at_call 18;refine HH.out.mono ?_;rintro e w1 ⟨v1,rfl,hr,hb⟩;obtain ⟨A1,n1,rfl⟩:=Kd.R_slice hr;have HRS1:=A0_.mk (HRS.out.below hb);have HR1:=A0_.mk (Kd.R_lower hr HRS.out.be.size);clear hr hb))
  have HLT1:=A0_.mk (blk_lt HRS1.out.F)
  have hbe:=eA_ (Below.refl w1.heap.size w1) (.cells #[.int .i64 0,.int .i64 code] 32)
  have h2:=HRS1.out.below hbe
  have hnr:=Kd.R_below HR1.out hbe
  have hL0:=blk_new w1 (.cells #[.int .i64 0,.int .i64 code] 32)
  clear hbe HRS1 HR1
  generalize w1.alloc (.cells #[.int .i64 0,.int .i64 code] 32) = W2 at h2 hnr hL0 ⊢
  generalize w1.heap.size = gT at HLT1 hL0 ⊢
  have hlt:=HLT1.out
  have f0 : W2.cell? ⟨gT,0,none⟩ = some (.int .i64 0):=bC_ hL0 0
  have f1 : W2.cell? ⟨gT,1,none⟩ = some (.int .i64 code):=bC_ hL0 1
  go_upto_region 3 with (fail)
  clear f0 f1
  have hR0:=h2
  have hC0:=hR0.C
  have e0 : W2.cell? ⟨w.heap.size,0,none⟩ = some (.int .i64 0):=bC_ hC0 0
  have g0:=bF_ hC0 0
  have e1 : W2.cell? ⟨w.heap.size,1,none⟩ = some (.slice none 0 0):=bC_ hC0 1
  have g1:=bF_ hC0 1
  have e2 : W2.cell? ⟨w.heap.size,2,none⟩ = some (.slice none 0 0):=bC_ hC0 2
  have g2:=bF_ hC0 2
  have e3 : W2.cell? ⟨w.heap.size,3,none⟩ = some (.slice none 0 0):=bC_ hC0 3
  have g3:=bF_ hC0 3
  have e4 : W2.cell? ⟨w.heap.size,4,none⟩ = some (.slice none 0 0):=bC_ hC0 4
  have g4:=bF_ hC0 4
  have e5 : W2.cell? ⟨w.heap.size,5,none⟩ = some (.slice none 0 0):=bC_ hC0 5
  have g5:=bF_ hC0 5
  have e6 : W2.cell? ⟨w.heap.size,6,none⟩ = some (.slice none 0 0):=bC_ hC0 6
  have g6:=bF_ hC0 6
  have e7 : W2.cell? ⟨w.heap.size,7,none⟩ = some (.slice none 0 0):=bC_ hC0 7
  have g7:=bF_ hC0 7
  have e8 : W2.cell? ⟨w.heap.size,8,none⟩ = some (.slice none 0 0):=bC_ hC0 8
  have g8:=bF_ hC0 8
  have e9 : W2.cell? ⟨w.heap.size,9,none⟩ = some (.slice none 0 0):=bC_ hC0 9
  have g9:=bF_ hC0 9
  have e10 : W2.cell? ⟨w.heap.size,10,none⟩ = some (.slice none 0 0):=bC_ hC0 10
  have g10:=bF_ hC0 10
  refine wp_normal' ?_
  refine start_ (n:=4) (S:=fun w' => w'.cell? ⟨gT,0,none⟩ = some (.int .i64 0) ∧ w'.cell? ⟨gT,1,none⟩ = some (.int .i64 code)) (ds:=[3]) (Array.replicate 4 false) (by kernel_rfl) rfl rfl ⟨bC_ hL0 0,bC_ hL0 1⟩ (fun hHeld => ?_)
  refine pure_ (i:=0) (N:=some 24) (v:=?_) (a':=?_) (zA_ 4 1) rfl rfl (by kernel_rfl) (fun _ _ _ h => by cases h.1) (Or.inl ⟨by rfl,?_⟩) ?_ ?_
  rotate_left
  ·intro w'
   go_simp
   with_reducible rfl
  rotate_left
  ·simp only [Act.put,sA_,sB_,sC_]
   rfl
  refine take_ (i:=1) (N:=some 25) (v:=?_) (a':=?_) (zA_ 4 3) rfl rfl (by kernel_rfl) (fun _ _ _ h => by cases h.1) (Or.inl ⟨by rfl,?_⟩) hHeld ?_ ?_
  rotate_left
  ·intro w' s0
   obtain ⟨s0_,s1_⟩:=s0
   go_simp
   with_reducible rfl
  rotate_left
  ·simp only [Act.put,sA_,sB_,sC_]
   rfl
  refine one_ (i:=2) (N:=none) (zA_ 4 7) rfl rfl (by kernel_rfl) (by decide) (fun K hK => ?_)
  refine skip_ (w1:=(((((((((((W2.drew).setCell ⟨w.heap.size,0,none⟩ (.int .i64 0)).setCell ⟨w.heap.size,1,none⟩ (.slice none 0 0)).setCell ⟨w.heap.size,2,none⟩ (.slice none 0 0)).setCell ⟨w.heap.size,3,none⟩ (.slice none 0 0)).setCell ⟨w.heap.size,4,none⟩ (.slice none 0 0)).setCell ⟨w.heap.size,5,none⟩ (.slice none 0 0)).setCell ⟨w.heap.size,6,none⟩ (.slice none 0 0)).setCell ⟨w.heap.size,7,none⟩ (.slice none 0 0)).setCell ⟨w.heap.size,8,none⟩ (.slice none 0 0)).setCell ⟨w.heap.size,9,none⟩ (.slice none 0 0)).setCell ⟨w.heap.size,10,none⟩ (.slice none 0 0)) rfl rfl ?_ ?_
  ·go_simp
  have h3:=(hR0.below (below_drew (Below.refl W2.heap.size W2))).setC (rows_nil W2.drew w.heap.size)
  dsimp only [nilVS,x0S] at h3
  have hF3:=h3.F
  have hL3:=far11 (keep_below hL0 (below_drew (Below.refl W2.heap.size W2))) (S:=w.heap.size) (by omega) (.int .i64 0) (.slice none 0 0) (.slice none 0 0) (.slice none 0 0) (.slice none 0 0) (.slice none 0 0) (.slice none 0 0) (.slice none 0 0) (.slice none 0 0) (.slice none 0 0) (.slice none 0 0)
  refine hK.out _ _ ⟨bC_ hL3 0,bC_ hL3 1⟩ (fun hHeld2 => ?_)
  clear hK K hHeld e0 g0 e1 g1 e2 g2 e3 g3 e4 g4 e5 g5 e6 g6 e7 g7 e8 g8 e9 g9 e10 g10
  generalize (((((((((((W2.drew).setCell ⟨w.heap.size,0,none⟩ (.int .i64 0)).setCell ⟨w.heap.size,1,none⟩ (.slice none 0 0)).setCell ⟨w.heap.size,2,none⟩ (.slice none 0 0)).setCell ⟨w.heap.size,3,none⟩ (.slice none 0 0)).setCell ⟨w.heap.size,4,none⟩ (.slice none 0 0)).setCell ⟨w.heap.size,5,none⟩ (.slice none 0 0)).setCell ⟨w.heap.size,6,none⟩ (.slice none 0 0)).setCell ⟨w.heap.size,7,none⟩ (.slice none 0 0)).setCell ⟨w.heap.size,8,none⟩ (.slice none 0 0)).setCell ⟨w.heap.size,9,none⟩ (.slice none 0 0)).setCell ⟨w.heap.size,10,none⟩ (.slice none 0 0) = W3 at h3 hF3 hL3 hHeld2 ⊢
  have d0:=bC_ hF3 0
  have d1:=bC_ hF3 1
  have q0':=bF_ hF3 0
  have q1':=bF_ hF3 1
  refine last_ (i:=3) (N:=none) (zA_ 4 15) rfl rfl (by kernel_rfl) (by decide) (fun K hK => ?_)
  refine skip_ (w1:=(W3.setCell ⟨w.heap.size + 1,0,none⟩ (.int .i64 0)).setCell ⟨w.heap.size + 1,1,none⟩ (.int .i64 code)) rfl rfl ?_ ?_
  ·go_simp
  refine hK.out _ _ ?_
  clear hK K
  have h4 : RdS w _ x0S nilVS 0 code:=RdS.setF h3 0 code
  clear d0 d1 q0' q1' h3 hF3 hL3 hHeld2 hC0 hR0
  generalize (W3.setCell ⟨w.heap.size + 1,0,none⟩ (.int .i64 0)).setCell ⟨w.heap.size + 1,1,none⟩ (.int .i64 code) = W4 at h4 ⊢
  refine done_ (by kernel_rfl) ?_
  refine ⟨rfl,?_⟩
  rename_i hKK
  refine hKK _ _ ?_
  have H4:=A0_.mk h4
  clear hKK h4
  go_wp2
  exact readB_results H4.out rfl rfl
end Go.Proofs.YtdmngdohlobogaaGreatDoor.Asc

