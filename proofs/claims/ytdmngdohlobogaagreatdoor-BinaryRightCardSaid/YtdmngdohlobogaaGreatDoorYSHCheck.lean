import Derived.Test.YtdmngdohlobogaaGreatDoorYM25
namespace Go.Proofs.YtdmngdohlobogaaGreatDoor.Asc
open Go Go.RowKit Go.Proofs.YtdmngdohlobogaaGreatDoorW.PrintWords Go.Proofs.YtdmngdohlobogaaGreatDoorW.PrintLast Go.Proofs.YtdmngdohlobogaaGreatDoorW.PrintMore
set_option linter.unusedVariables false
set_option linter.unusedSimpArgs false
theorem make148 (w : World) (n : Nat) (h : n ≤ 1048576) : ∃ X,(Instr.makeSlice 125 (.int .i64 (n : Int)) (.int .i64 (n : Int))).run Tryz.prog w = .ok (.slice (some ⟨w.heap.size,0,none⟩) n n) (w.alloc (.cells X 154)) ∧ X.toList = flatM (List.replicate n z40):=by
 obtain ⟨i0,hi0,hz0,hzs,hzb⟩:=info_parts (show (Tryz.prog.info? 154).map (fun i => (i.zero,i.size,i.bytes)) = some (some (.agg #[.int .i64 0,.int .i64 0]),2,16) by kernel_rfl)
 have:=run_make (P:=Tryz.prog) w 125 154 i0 _ Tryz.underlying125 hi0 hz0 .i64 .i64 (n : Int) (n : Int) (by omega) (Int.le_refl _) (by rw [hzb];omega) (by omega)
 refine ⟨_,by rw [this,hzs,Int.toNat_natCast],?_⟩
 have e1 : flatM (List.replicate n z40) = List.replicate (2 * n) (Value.int .i64 0):=by
  induction n with
  |zero => rfl
  |succ n ih =>
   have ih:=ih (by omega) (by
    have:=run_make (P:=Tryz.prog) w 125 154 i0 _ Tryz.underlying125 hi0 hz0 .i64 .i64 (n : Int) (n : Int) (by omega) (Int.le_refl _) (by rw [hzb];omega) (by omega)
    exact this)
   rw [List.replicate_succ,flatM_cons,ih,show 2 * (n + 1) = 2 * n + 1 + 1 by omega,List.replicate_succ,List.replicate_succ]
   rfl
 rw [e1]
 show (madeCells #[Value.int .i64 0,Value.int .i64 0] (n * 2)).toList = _
 apply List.ext_getElem
 ·simp [madeCells];omega
 ·intro i h1 h2
  simp only [madeCells,Array.getElem_toList,Array.getElem_map,Array.getElem_range,List.getElem_replicate]
  have hm : i % 2 < 2:=Nat.mod_lt _ (by decide)
  show #[Value.int .i64 0,Value.int .i64 0][i % 2]! = _
  generalize i % 2 = j at hm
  match j,hm with
  |0,_ => rfl
  |1,_ => rfl
def BX (W : World) (q : Nat) (c : S65) (a : CA) : Prop:=W.heap[q]? = some (.cells (cellsC c a) 29 (0,0))
theorem BX.cell {W : World} {q : Nat} {c : S65} {a : CA} (h : BX W q c a) (i : Nat) : W.cell? ⟨q,i,none⟩ = (cellsC c a)[i]?:=bC_ h i
theorem BX.below {W W1 : World} {q : Nat} {c : S65} {a : CA} (h : BX W q c a) (hb : Below W.heap.size W W1) : BX W1 q c a:=(hb.block q (Array.getElem?_eq_some_iff.1 h).1).trans h
theorem C_bytes {w : World} {A : Option Addr} {n : Nat} {xs : List Int} (h : ReadsInt w .u8 A n xs) : Kd.C (Kd.int .u8) w A xs.length xs:=by
 obtain ⟨h1,h2,h3⟩:=h
 subst h1
 refine ⟨rfl,h2,fun hp => ?_⟩
 obtain ⟨ad,e,hc⟩:=h3 hp
 refine ⟨ad,e,fun j p hj => ⟨[Value.int .u8 p],rfl,rfl,fun i u hu => ?_⟩⟩
 cases i with
 |zero =>
  simp only [List.getElem?_cons_zero,Option.some.injEq] at hu
  subst hu
  have hl:=(List.getElem?_eq_some_iff.1 hj).1
  have:=hc j hl
  rw [show xs.getD j 0 = p by simp [hj]] at this
  show w.cell? (ad.add (j * 1 + 0)) = _
  rw [Nat.mul_one,Nat.add_zero]
  exact this
 |succ i => cases hu
theorem C_str_get {w : World} {A : Option Addr} {xs : List ByteArray} (h : Kd.C Kd.string w A xs.length xs) (n : Nat) (hn : n < xs.length) : ∃ ad,A = some ad ∧ w.cell? (ad.add n) = some (.string xs[n]):=by
 obtain ⟨ad,c,e,_,hK,hc⟩:=Kd.C_get h ⟨#[]⟩ (n : Int) (by omega) (by omega)
 obtain rfl : c = _:=hK
 refine ⟨ad,e,?_⟩
 have:=hc 0 _ rfl
 simpa [hn,Kd.string,Kd.scalar] using this
set_option maxHeartbeats 1000000 in
set_option maxRecDepth 100000 in
theorem look_ok {c : S65} {a : CA} {w : World} (hC : CR w c a) (hK : Caps c a) (hj : ∀ r ∈ c.f6,r.length ≤ 140737488355328) (hs10 : ∀ s ∈ c.f10,s.size ≤ 1099511627776) :
  Calls Tryz.prog 59 #[.agg (cellsC c a)] w fun e w' => (∃ p,e = .returned (.tuple #[p,.int .i64 (lookF c).1,.int .i64 (lookF c).2]) ∧ ((lookF c).2 = 0 → ∃ lg bk,p = .pointer (some ⟨lg,0,none⟩) ∧ LK w' lg bk c a (definesF c (by0 c)).2.2)) ∧ Below w.heap.size w w':=by
 have hu65:=Tryz.underlying29
 have hu150:=Tryz.underlying127
 have HC:=A0_.mk hC
 have HCAP:=A0_.mk hK
 have HJ:=A0_.mk hj
 have HS10:=A0_.mk hs10
 obtain ⟨RES,hRES⟩ : ∃ RES,lookF c = RES:=⟨_,rfl⟩
 rw [hRES]
 have HRES:=A0_.mk hRES
 clear hC hK hj hs10 hRES
 obtain ⟨A1,A2,A3,A4,A5,A6,A7,A8,A9,A10,c1,c2,c3,c4,c5,c6,c7,c8,c9,c10⟩:=a
 unfold cellsC
 go_enter Tryz.func59,Tryz.ntmps59
 go_upto_region 1 with (fail)
 obtain ⟨a,ha⟩ : ∃ a : CA,a = ⟨A1,A2,A3,A4,A5,A6,A7,A8,A9,A10,c1,c2,c3,c4,c5,c6,c7,c8,c9,c10⟩:=⟨_,rfl⟩
 have hX : BX (w.alloc (.cells #[.int .i64 c.f0,.slice A1 c.f1.length c1,.slice A2 c.f2.length c2,.slice A3 c.f3.length c3,.slice A4 c.f4.length c4,.slice A5 c.f5.length c5,.slice A6 c.f6.length c6,.slice A7 c.f7.length c7,.slice A8 c.f8.length c8,.slice A9 c.f9.length c9,.slice A10 c.f10.length c10] 29)) w.heap.size c ⟨A1,A2,A3,A4,A5,A6,A7,A8,A9,A10,c1,c2,c3,c4,c5,c6,c7,c8,c9,c10⟩:=blk_new w _
 have hB : Below w.heap.size w (w.alloc (.cells #[.int .i64 c.f0,.slice A1 c.f1.length c1,.slice A2 c.f2.length c2,.slice A3 c.f3.length c3,.slice A4 c.f4.length c4,.slice A5 c.f5.length c5,.slice A6 c.f6.length c6,.slice A7 c.f7.length c7,.slice A8 c.f8.length c8,.slice A9 c.f9.length c9,.slice A10 c.f10.length c10] 29)):=eA_ (Below.refl _ _) _
 have HB:=A0_.mk hB
 have hSZ:=sizes_calls (HC.out.below hB) HCAP.out.k6 HJ.out
 dsimp only [cellsC] at hSZ
 have HSZ:=A0_.mk hSZ
 clear hSZ
 clear hB ha
 obtain ⟨q,hq⟩ : ∃ q,w.heap.size = q:=⟨_,rfl⟩
 have HQ : A0_ (w.heap.size ≤ q):=⟨Nat.le_of_eq hq⟩
 have hX2 : BX (w.alloc (.cells #[.int .i64 c.f0,.slice A1 c.f1.length c1,.slice A2 c.f2.length c2,.slice A3 c.f3.length c3,.slice A4 c.f4.length c4,.slice A5 c.f5.length c5,.slice A6 c.f6.length c6,.slice A7 c.f7.length c7,.slice A8 c.f8.length c8,.slice A9 c.f9.length c9,.slice A10 c.f10.length c10] 29)) q c ⟨A1,A2,A3,A4,A5,A6,A7,A8,A9,A10,c1,c2,c3,c4,c5,c6,c7,c8,c9,c10⟩:=hq ▸ hX
 have HX:=A0_.mk hX2
 clear hX hX2
 rw [hq]
 clear hq
 generalize w.alloc (.cells #[.int .i64 c.f0,.slice A1 c.f1.length c1,.slice A2 c.f2.length c2,.slice A3 c.f3.length c3,.slice A4 c.f4.length c4,.slice A5 c.f5.length c5,.slice A6 c.f6.length c6,.slice A7 c.f7.length c7,.slice A8 c.f8.length c8,.slice A9 c.f9.length c9,.slice A10 c.f10.length c10] 29) = W at HB HSZ HX ⊢
 have y0 : W.cell? ⟨q,0,none⟩ = some (.int .i64 c.f0):=(HX.out.cell 0).trans rfl
 have y1 : W.cell? ⟨q,1,none⟩ = some (.slice A1 c.f1.length c1):=(HX.out.cell 1).trans rfl
 have y2 : W.cell? ⟨q,2,none⟩ = some (.slice A2 c.f2.length c2):=(HX.out.cell 2).trans rfl
 have y3 : W.cell? ⟨q,3,none⟩ = some (.slice A3 c.f3.length c3):=(HX.out.cell 3).trans rfl
 have y4 : W.cell? ⟨q,4,none⟩ = some (.slice A4 c.f4.length c4):=(HX.out.cell 4).trans rfl
 have y5 : W.cell? ⟨q,5,none⟩ = some (.slice A5 c.f5.length c5):=(HX.out.cell 5).trans rfl
 have y6 : W.cell? ⟨q,6,none⟩ = some (.slice A6 c.f6.length c6):=(HX.out.cell 6).trans rfl
 have y7 : W.cell? ⟨q,7,none⟩ = some (.slice A7 c.f7.length c7):=(HX.out.cell 7).trans rfl
 have y8 : W.cell? ⟨q,8,none⟩ = some (.slice A8 c.f8.length c8):=(HX.out.cell 8).trans rfl
 have y9 : W.cell? ⟨q,9,none⟩ = some (.slice A9 c.f9.length c9):=(HX.out.cell 9).trans rfl
 have y10 : W.cell? ⟨q,10,none⟩ = some (.slice A10 c.f10.length c10):=(HX.out.cell 10).trans rfl
 have hr:=HRES.out
 clear HRES
 unfold lookF at hr
 generalize hz : sizesF c = z at hr HSZ
 by_cases cz : z = 0
 ·subst cz
  rw [if_neg (fun h => h rfl)] at hr
  have HSH:=A0_.mk (sizes_short hz)
  have HRES:=A0_.mk hr
  clear hr hz
  go_upto_region 2 with (((with_reducible refine gate_callee (f:=84) rfl ?_);refine goesL_ (some 16) rfl rfl Tryz.func84 (by kernel_rfl) rfl #[.agg #[.int .i64 c.f0,.slice A1 c.f1.length c1,.slice A2 c.f2.length c2,.slice A3 c.f3.length c3,.slice A4 c.f4.length c4,.slice A5 c.f5.length c5,.slice A6 c.f6.length c6,.slice A7 c.f7.length c7,.slice A8 c.f8.length c8,.slice A9 c.f9.length c9,.slice A10 c.f10.length c10]] rfl (by (try simp only [List.map_toArray,List.map_cons,List.map_nil]);first|done|rfl) ?_;(with_reducible refine (HSZ.out).mono ?_);rintro e w2 ⟨rfl,hb2⟩;refine ⟨_,rfl,?_⟩;have HX2:=A0_.mk (HX.out.below hb2);have HB2:=A0_.mk (HB.out.trans (lower_ HB.out.size hb2));clear hb2 HSZ HX HB))
  go_wp2
  repeat (go_quiet (fail);try go_wp2)
  clear y0 y1 y2 y3 y4 y5 y6 y7 y8 y9 y10
  obtain ⟨nn,hnn⟩ : ∃ nn : Nat,c.f0 + 1 = (nn : Int):=⟨(c.f0 + 1).toNat,by have:=HSH.out.m0;omega⟩
  have hw1 : IntKind.i64.wrap (c.f0 + 1) = (nn : Int):=by have:=HSH.out.m1;have:=HSH.out.m0;rw [IntKind.wrap_i64];omega
  have HNN:=A0_.mk hnn
  clear hnn
  refine wp_normal' ?_
  refine start_ (n:=8) (S:=fun w' => BX w' q c ⟨A1,A2,A3,A4,A5,A6,A7,A8,A9,A10,c1,c2,c3,c4,c5,c6,c7,c8,c9,c10⟩ ∧ Below w.heap.size w w' ∧ Below w2.heap.size w2 w') (ds:=[]) (Array.replicate 8 false) (by kernel_rfl) rfl rfl ⟨HX2.out,below_drew HB2.out,below_drew (Below.refl _ _)⟩ (fun hHeld => ?_)
  have hX20:=HX2.out
  have HBW:=A0_.mk HB2.out
  clear HX2 HB2
  generalize w2.drew = wd at hHeld ⊢
  refine take_ (i:=0) (N:=some 20) (v:=?_) (a':=?_) (zA_ 8 1) rfl rfl (by kernel_rfl) (fun _ _ _ h => by cases h.1) (Or.inl ⟨by rfl,?_⟩) hHeld ?_ ?_
  rotate_left
  ·intro w' s_
   have y0 : w'.cell? ⟨q,0,none⟩ = some (.int .i64 c.f0):=(s_.1.cell 0).trans rfl
   have y1 : w'.cell? ⟨q,1,none⟩ = some (.slice A1 c.f1.length c1):=(s_.1.cell 1).trans rfl
   have y2 : w'.cell? ⟨q,2,none⟩ = some (.slice A2 c.f2.length c2):=(s_.1.cell 2).trans rfl
   have y3 : w'.cell? ⟨q,3,none⟩ = some (.slice A3 c.f3.length c3):=(s_.1.cell 3).trans rfl
   have y4 : w'.cell? ⟨q,4,none⟩ = some (.slice A4 c.f4.length c4):=(s_.1.cell 4).trans rfl
   have y5 : w'.cell? ⟨q,5,none⟩ = some (.slice A5 c.f5.length c5):=(s_.1.cell 5).trans rfl
   have y6 : w'.cell? ⟨q,6,none⟩ = some (.slice A6 c.f6.length c6):=(s_.1.cell 6).trans rfl
   have y7 : w'.cell? ⟨q,7,none⟩ = some (.slice A7 c.f7.length c7):=(s_.1.cell 7).trans rfl
   have y8 : w'.cell? ⟨q,8,none⟩ = some (.slice A8 c.f8.length c8):=(s_.1.cell 8).trans rfl
   have y9 : w'.cell? ⟨q,9,none⟩ = some (.slice A9 c.f9.length c9):=(s_.1.cell 9).trans rfl
   have y10 : w'.cell? ⟨q,10,none⟩ = some (.slice A10 c.f10.length c10):=(s_.1.cell 10).trans rfl
   go_simp
   with_reducible rfl
  rotate_left
  ·simp only [Act.put,sA_,sB_,sC_]
   rfl
  refine pure_ (i:=1) (N:=some 21) (v:=?_) (a':=?_) (zA_ 8 3) rfl rfl (by kernel_rfl) (fun _ _ _ h => by cases h.1) (Or.inl ⟨by rfl,?_⟩) ?_ ?_
  rotate_left
  ·intro w'
   go_simp
   with_reducible rfl
  rotate_left
  ·simp only [Act.put,sA_,sB_,sC_]
   rfl
  refine take_ (i:=2) (N:=some 22) (v:=?_) (a':=?_) (zA_ 8 7) rfl rfl (by kernel_rfl) (fun _ _ _ h => by cases h.1) (Or.inl ⟨by rfl,?_⟩) hHeld ?_ ?_
  rotate_left
  ·intro w' s_
   have y0 : w'.cell? ⟨q,0,none⟩ = some (.int .i64 c.f0):=(s_.1.cell 0).trans rfl
   have y1 : w'.cell? ⟨q,1,none⟩ = some (.slice A1 c.f1.length c1):=(s_.1.cell 1).trans rfl
   have y2 : w'.cell? ⟨q,2,none⟩ = some (.slice A2 c.f2.length c2):=(s_.1.cell 2).trans rfl
   have y3 : w'.cell? ⟨q,3,none⟩ = some (.slice A3 c.f3.length c3):=(s_.1.cell 3).trans rfl
   have y4 : w'.cell? ⟨q,4,none⟩ = some (.slice A4 c.f4.length c4):=(s_.1.cell 4).trans rfl
   have y5 : w'.cell? ⟨q,5,none⟩ = some (.slice A5 c.f5.length c5):=(s_.1.cell 5).trans rfl
   have y6 : w'.cell? ⟨q,6,none⟩ = some (.slice A6 c.f6.length c6):=(s_.1.cell 6).trans rfl
   have y7 : w'.cell? ⟨q,7,none⟩ = some (.slice A7 c.f7.length c7):=(s_.1.cell 7).trans rfl
   have y8 : w'.cell? ⟨q,8,none⟩ = some (.slice A8 c.f8.length c8):=(s_.1.cell 8).trans rfl
   have y9 : w'.cell? ⟨q,9,none⟩ = some (.slice A9 c.f9.length c9):=(s_.1.cell 9).trans rfl
   have y10 : w'.cell? ⟨q,10,none⟩ = some (.slice A10 c.f10.length c10):=(s_.1.cell 10).trans rfl
   go_simp
   with_reducible rfl
  rotate_left
  ·simp only [Act.put,sA_,sB_,sC_]
   rfl
  refine pure_ (i:=3) (N:=some 23) (v:=?_) (a':=?_) (zA_ 8 15) rfl rfl (by kernel_rfl) (fun _ _ _ h => by cases h.1) (Or.inl ⟨by rfl,?_⟩) ?_ ?_
  rotate_left
  ·intro w'
   go_simp
   with_reducible rfl
  rotate_left
  ·simp only [Act.put,sA_,sB_,sC_]
   rfl
  refine one_ (i:=4) (N:=some 24) (zA_ 8 31) rfl rfl (by kernel_rfl) (by decide) (fun K hK => ?_)
  obtain ⟨X,hX,hXl⟩:=make148 wd nn (by have:=HNN.out;have:=HSH.out.m1;omega)
  refine value_ (v:=.slice (some ⟨wd.heap.size,0,none⟩) nn nn) (w1:=wd.alloc (.cells X 154)) rfl rfl ?_ ?_
  ·go_simp
  have hb5 : Below w.heap.size w (wd.alloc (.cells X 154)):=eA_ hHeld.2.1 _
  have hc5 : Below w2.heap.size w2 (wd.alloc (.cells X 154)):=eA_ hHeld.2.2 _
  have hBY : ByAt (wd.alloc (.cells X 154)) wd.heap.size (List.replicate nn z40):=⟨X,blk_new wd _,by rw [hXl];exact List.prefix_refl _⟩
  have hX5:=hHeld.1.below (eA_ (w:=wd) (Below.refl _ _) (.cells X 154))
  have HBK : A0_ (w2.heap.size ≤ wd.heap.size):=⟨hHeld.2.2.size⟩
  clear hHeld hX
  generalize wd.heap.size = bk at hBY HBK ⊢
  generalize wd.alloc (.cells X 154) = w5 at hb5 hc5 hBY hX5 ⊢
  refine hK.out _ _ ⟨hX5,hb5,hc5⟩ (fun hHeld => ?_)
  clear hK K hX5 hb5 hc5 hXl
  refine norm_ (a':=?_) ?_ ?_
  rotate_left
  ·show Act.put _ (some 24) _ = _
   simp only [Act.put,sA_,sB_,sC_]
   rfl
  refine pure_ (i:=5) (N:=some 25) (v:=?_) (a':=?_) (zA_ 8 63) rfl rfl (by kernel_rfl) (fun _ _ _ h => by cases h.1) (Or.inl ⟨by rfl,?_⟩) ?_ ?_
  rotate_left
  ·intro w'
   go_simp
   with_reducible rfl
  rotate_left
  ·simp only [Act.put,sA_,sB_,sC_]
   rfl
  refine one_ (i:=6) (N:=some 26) (zA_ 8 127) rfl rfl (by kernel_rfl) (by decide) (fun K hK => ?_)
  refine value_ (v:=.pointer (some ⟨w5.heap.size,0,none⟩)) (w1:=w5.alloc (.cells #[.int .i64 c.f0,.slice A1 c.f1.length c1,.slice A2 c.f2.length c2,.slice A3 c.f3.length c3,.slice A4 c.f4.length c4,.slice A5 c.f5.length c5,.slice A6 c.f6.length c6,.slice A7 c.f7.length c7,.slice A8 c.f8.length c8,.slice A9 c.f9.length c9,.slice A10 c.f10.length c10,.slice (some ⟨bk,0,none⟩) nn nn] 127)) rfl rfl ?_ ?_
  ·go_simp
  have hb6 : Below w.heap.size w (w5.alloc (.cells #[.int .i64 c.f0,.slice A1 c.f1.length c1,.slice A2 c.f2.length c2,.slice A3 c.f3.length c3,.slice A4 c.f4.length c4,.slice A5 c.f5.length c5,.slice A6 c.f6.length c6,.slice A7 c.f7.length c7,.slice A8 c.f8.length c8,.slice A9 c.f9.length c9,.slice A10 c.f10.length c10,.slice (some ⟨bk,0,none⟩) nn nn] 127)):=eA_ hHeld.2.1 _
  have hc6 : Below w2.heap.size w2 (w5.alloc (.cells #[.int .i64 c.f0,.slice A1 c.f1.length c1,.slice A2 c.f2.length c2,.slice A3 c.f3.length c3,.slice A4 c.f4.length c4,.slice A5 c.f5.length c5,.slice A6 c.f6.length c6,.slice A7 c.f7.length c7,.slice A8 c.f8.length c8,.slice A9 c.f9.length c9,.slice A10 c.f10.length c10,.slice (some ⟨bk,0,none⟩) nn nn] 127)):=eA_ hHeld.2.2 _
  have hX6:=hHeld.1.below (eA_ (w:=w5) (Below.refl _ _) (.cells #[.int .i64 c.f0,.slice A1 c.f1.length c1,.slice A2 c.f2.length c2,.slice A3 c.f3.length c3,.slice A4 c.f4.length c4,.slice A5 c.f5.length c5,.slice A6 c.f6.length c6,.slice A7 c.f7.length c7,.slice A8 c.f8.length c8,.slice A9 c.f9.length c9,.slice A10 c.f10.length c10,.slice (some ⟨bk,0,none⟩) nn nn] 127))
  have hlk : LK (w5.alloc (.cells #[.int .i64 c.f0,.slice A1 c.f1.length c1,.slice A2 c.f2.length c2,.slice A3 c.f3.length c3,.slice A4 c.f4.length c4,.slice A5 c.f5.length c5,.slice A6 c.f6.length c6,.slice A7 c.f7.length c7,.slice A8 c.f8.length c8,.slice A9 c.f9.length c9,.slice A10 c.f10.length c10,.slice (some ⟨bk,0,none⟩) nn nn] 127)) w5.heap.size bk c ⟨A1,A2,A3,A4,A5,A6,A7,A8,A9,A10,c1,c2,c3,c4,c5,c6,c7,c8,c9,c10⟩ (List.replicate nn z40):=⟨by have:=blk_new w5 (.cells #[.int .i64 c.f0,.slice A1 c.f1.length c1,.slice A2 c.f2.length c2,.slice A3 c.f3.length c3,.slice A4 c.f4.length c4,.slice A5 c.f5.length c5,.slice A6 c.f6.length c6,.slice A7 c.f7.length c7,.slice A8 c.f8.length c8,.slice A9 c.f9.length c9,.slice A10 c.f10.length c10,.slice (some ⟨bk,0,none⟩) nn nn] 127);rw [this,List.length_replicate];rfl,hBY.keep ((eA_ (w:=w5) (Below.refl _ _) _).block bk hBY.lt)⟩
  have HGK : A0_ (w2.heap.size ≤ w5.heap.size):=⟨hHeld.2.2.size⟩
  clear hHeld hBY
  generalize w5.heap.size = lg at hlk HGK ⊢
  generalize w5.alloc (.cells #[.int .i64 c.f0,.slice A1 c.f1.length c1,.slice A2 c.f2.length c2,.slice A3 c.f3.length c3,.slice A4 c.f4.length c4,.slice A5 c.f5.length c5,.slice A6 c.f6.length c6,.slice A7 c.f7.length c7,.slice A8 c.f8.length c8,.slice A9 c.f9.length c9,.slice A10 c.f10.length c10,.slice (some ⟨bk,0,none⟩) nn nn] 127) = w6 at hb6 hc6 hX6 hlk ⊢
  refine hK.out _ _ ⟨hX6,hb6,hc6⟩ (fun hHeld => ?_)
  clear hK K hX6 hb6 hc6
  refine norm_ (a':=?_) ?_ ?_
  rotate_left
  ·show Act.put _ (some 26) _ = _
   simp only [Act.put,sA_,sB_,sC_]
   rfl
  refine pure_ (i:=7) (N:=some 6) (v:=?_) (a':=?_) (zA_ 8 255) rfl rfl (by kernel_rfl) (fun _ _ _ h => by cases h.1) (Or.inl ⟨by rfl,?_⟩) ?_ ?_
  rotate_left
  ·intro w'
   go_simp
   with_reducible rfl
  rotate_left
  ·simp only [Act.put,sA_,sB_,sC_]
   rfl
  refine done_ (by kernel_rfl) ?_
  refine ⟨rfl,?_⟩
  rename_i hKK
  refine hKK _ _ ?_
  clear hKK
  have hby0 : by0 c = List.replicate nn z40:=by unfold by0;congr 1;have:=HNN.out;omega
  have hr:=HRES.out
  rw [hby0] at hr
  have hgt:=defines_gates (c:=c) (by_:=List.replicate nn z40) (fun m hm h3 => by have:=List.eq_of_mem_replicate hm;subst this;exact absurd h3 (by decide))
  have hln:=defines_len (c:=c) (by_:=List.replicate nn z40)
  obtain ⟨D,hD⟩ : ∃ D,definesF c (List.replicate nn z40) = D:=⟨_,rfl⟩
  have hdb : (definesF c (by0 c)).2.2 = D.2.2:=by rw [hby0,hD]
  rw [hD] at hr hgt hln
  rw [List.length_replicate] at hln
  obtain ⟨r1,r2,by9⟩:=D
  dsimp only at hr hgt hln hdb
  have HDB:=A0_.mk hdb
  clear hdb
  have DC:=A0_.mk (defines_calls lg bk c ⟨A1,A2,A3,A4,A5,A6,A7,A8,A9,A10,c1,c2,c3,c4,c5,c6,c7,c8,c9,c10⟩ (List.replicate nn z40) w2 w6 r1 r2 by9 hD (HC.out.below hHeld.2.1) hlk hHeld.2.2 HBK.out HGK.out (HC.out.below HBW.out) HSH.out.m0 HSH.out.m1 (by rw [List.length_replicate];have:=HNN.out;omega) HSH.out.l1 HSH.out.l2 HSH.out.l8)
  have HLN : A0_ ((by9.length : Int) = c.f0 + 1):=⟨by have:=HNN.out;omega⟩
  have HGT:=A0_.mk hgt
  have HX20:=A0_.mk hX20
  clear hby0 hgt hln hD hHeld hlk HRES hX20
  by_cases cr : r2 = 0
  ·subst cr
   rw [if_neg (fun h => h rfl)] at hr
   have HRES:=A0_.mk hr
   clear hr
   go_upto_region 6 with (((with_reducible refine gate_callee (f:=85) rfl ?_);refine goesL_ (some 29) rfl rfl Tryz.func85 (by kernel_rfl) rfl #[.pointer (some ⟨lg,0,none⟩)] rfl (by (try simp only [List.map_toArray,List.map_cons,List.map_nil]);first|done|rfl) ?_;(with_reducible refine (DC.out).mono ?_);rintro e w7 ⟨rfl,hlk,hb7⟩;refine ⟨_,rfl,?_⟩;have HLK:=A0_.mk hlk;have HX3:=A0_.mk (HX20.out.below hb7);have HB3:=A0_.mk (HBW.out.trans (lower_ HBW.out.size hb7));have HC3:=A0_.mk hb7;clear hlk hb7 DC))
   have UC:=A0_.mk (uses_calls HLK.out (HC.out.below HB3.out) HSH.out HLN.out)
   have hr:=HRES.out
   clear HRES HC3 HX20 HBW
   have hua:=uses_ands (c:=c) (by_:=by9)
   obtain ⟨D,hD⟩ : ∃ D,usesF c by9 = D:=⟨_,rfl⟩
   rw [hD] at hr UC hua
   clear hD
   obtain ⟨u1,u2⟩:=D
   dsimp only at hr UC hua
   by_cases cu : u2 = 0
   ·subst cu
    rw [if_neg (fun h => h rfl)] at hr
    have HUA:=A0_.mk (hua rfl)
    have HRES:=A0_.mk hr
    clear hr hua
    go_upto_region 9 with (((with_reducible refine gate_callee (f:=86) rfl ?_);refine goesL_ (some 38) rfl rfl Tryz.func86 (by kernel_rfl) rfl #[.pointer (some ⟨lg,0,none⟩)] rfl (by (try simp only [List.map_toArray,List.map_cons,List.map_nil]);first|done|rfl) ?_;(with_reducible refine (UC.out).mono ?_);rintro e w8 ⟨rfl,hb8⟩;refine ⟨_,rfl,?_⟩;have HLK4:=A0_.mk (HLK.out.below hb8);have HX4:=A0_.mk (HX3.out.below hb8);have HB4:=A0_.mk (HB3.out.trans (lower_ HB3.out.size hb8));clear hb8 UC HLK HX3 HB3))
    have hCY:=cycle_calls HLK4.out (HC.out.below HB4.out) HSH.out.m1 HLN.out HSH.out.l8 HUA.out HGT.out
    have hr:=HRES.out
    clear HRES
    unfold lookTail at hr
    generalize cycleF by9 c.f8 = z at hr hCY
    have CY:=A0_.mk hCY
    clear hCY
    by_cases cz : 0 ≤ z
    ·rw [if_pos cz] at hr
     have czb : decide (0 ≤ z) = true:=decide_eq_true cz
     subst hr
     go_wp2_with (first|((with_reducible refine gate_callee (f:=87) rfl ?_);refine goesL_ (some 46) rfl rfl Tryz.func87 (by kernel_rfl) rfl #[.pointer (some ⟨lg,0,none⟩)] rfl (by (try simp only [List.map_toArray,List.map_cons,List.map_nil]);first|done|rfl) ?_;(with_reducible refine (CY.out).mono ?_);rintro e w9 ⟨rfl,hb9⟩;refine ⟨_,rfl,?_⟩;have HX5:=A0_.mk (HX4.out.below hb9);have HB5:=A0_.mk (HB4.out.trans (lower_ HB4.out.size hb9));clear hb9 CY HLK4 HX4 HB4)|go_in)
     repeat (go_quiet (fail);try go_wp2)
     show bodyPost _ _ _ _ _ _
     refine bodyPost_ret (results_tmp3 rfl _ _ _) rfl ?_
     exact ⟨⟨_,rfl⟩,HB5.out⟩
    ·rw [if_neg cz] at hr
     have czb : decide (0 ≤ z) = false:=decide_eq_false cz
     have czn : z < 0:=by omega
     have HRES:=A0_.mk hr
     clear hr
     go_upto_region 12 with (((with_reducible refine gate_callee (f:=87) rfl ?_);refine goesL_ (some 46) rfl rfl Tryz.func87 (by kernel_rfl) rfl #[.pointer (some ⟨lg,0,none⟩)] rfl (by (try simp only [List.map_toArray,List.map_cons,List.map_nil]);first|done|rfl) ?_;(with_reducible refine (CY.out).mono ?_);rintro e w9 ⟨rfl,hb9⟩;refine ⟨_,rfl,?_⟩;have HX5:=A0_.mk (HX4.out.below hb9);have HLK5:=A0_.mk (HLK4.out.below hb9);have HB5:=A0_.mk (HB4.out.trans (lower_ HB4.out.size hb9));clear hb9 CY HLK4 HX4 HB4))
     have hSY:=symbols_calls (HC.out.below HB5.out) HCAP.out HSH.out.l9
     dsimp only [cellsC] at hSY
     have hr:=HRES.out
     clear HRES
     generalize symbolsF c c.f9 0 [] = y at hr hSY
     have SY:=A0_.mk hSY
     clear hSY
     have y0 : w9.cell? ⟨q,0,none⟩ = some (.int .i64 c.f0):=(HX5.out.cell 0).trans rfl
     have y1 : w9.cell? ⟨q,1,none⟩ = some (.slice A1 c.f1.length c1):=(HX5.out.cell 1).trans rfl
     have y2 : w9.cell? ⟨q,2,none⟩ = some (.slice A2 c.f2.length c2):=(HX5.out.cell 2).trans rfl
     have y3 : w9.cell? ⟨q,3,none⟩ = some (.slice A3 c.f3.length c3):=(HX5.out.cell 3).trans rfl
     have y4 : w9.cell? ⟨q,4,none⟩ = some (.slice A4 c.f4.length c4):=(HX5.out.cell 4).trans rfl
     have y5 : w9.cell? ⟨q,5,none⟩ = some (.slice A5 c.f5.length c5):=(HX5.out.cell 5).trans rfl
     have y6 : w9.cell? ⟨q,6,none⟩ = some (.slice A6 c.f6.length c6):=(HX5.out.cell 6).trans rfl
     have y7 : w9.cell? ⟨q,7,none⟩ = some (.slice A7 c.f7.length c7):=(HX5.out.cell 7).trans rfl
     have y8 : w9.cell? ⟨q,8,none⟩ = some (.slice A8 c.f8.length c8):=(HX5.out.cell 8).trans rfl
     have y9 : w9.cell? ⟨q,9,none⟩ = some (.slice A9 c.f9.length c9):=(HX5.out.cell 9).trans rfl
     have y10 : w9.cell? ⟨q,10,none⟩ = some (.slice A10 c.f10.length c10):=(HX5.out.cell 10).trans rfl
     by_cases cy : 0 ≤ y
     ·rw [if_pos cy] at hr
      have cyb : decide (0 ≤ y) = true:=decide_eq_true cy
      subst hr
      go_wp2_with (first|((with_reducible refine gate_callee (f:=88) rfl ?_);refine goesL_ (some 51) rfl rfl Tryz.func88 (by kernel_rfl) rfl #[.agg #[.int .i64 c.f0,.slice A1 c.f1.length c1,.slice A2 c.f2.length c2,.slice A3 c.f3.length c3,.slice A4 c.f4.length c4,.slice A5 c.f5.length c5,.slice A6 c.f6.length c6,.slice A7 c.f7.length c7,.slice A8 c.f8.length c8,.slice A9 c.f9.length c9,.slice A10 c.f10.length c10]] rfl (by (try simp only [List.map_toArray,List.map_cons,List.map_nil]);first|done|rfl) ?_;(with_reducible refine (SY.out).mono ?_);rintro e w10 ⟨rfl,hb10⟩;refine ⟨_,rfl,?_⟩;have HX6:=A0_.mk (HX5.out.below hb10);have HB6:=A0_.mk (HB5.out.trans (lower_ HB5.out.size hb10));clear hb10 SY HX5 HB5)|go_in)
      repeat (go_quiet (fail);try go_wp2)
      show bodyPost _ _ _ _ _ _
      refine bodyPost_ret (results_tmp3 rfl _ _ _) rfl ?_
      exact ⟨⟨_,rfl⟩,HB6.out⟩
     ·rw [if_neg cy] at hr
      have cyb : decide (0 ≤ y) = false:=decide_eq_false cy
      have cyn : y < 0:=by omega
      have HRES:=A0_.mk hr
      clear hr
      go_upto_region 15 with (((with_reducible refine gate_callee (f:=88) rfl ?_);refine goesL_ (some 51) rfl rfl Tryz.func88 (by kernel_rfl) rfl #[.agg #[.int .i64 c.f0,.slice A1 c.f1.length c1,.slice A2 c.f2.length c2,.slice A3 c.f3.length c3,.slice A4 c.f4.length c4,.slice A5 c.f5.length c5,.slice A6 c.f6.length c6,.slice A7 c.f7.length c7,.slice A8 c.f8.length c8,.slice A9 c.f9.length c9,.slice A10 c.f10.length c10]] rfl (by (try simp only [List.map_toArray,List.map_cons,List.map_nil]);first|done|rfl) ?_;(with_reducible refine (SY.out).mono ?_);rintro e w10 ⟨rfl,hb10⟩;refine ⟨_,rfl,?_⟩;have HX6:=A0_.mk (HX5.out.below hb10);have HLK6:=A0_.mk (HLK5.out.below hb10);have HB6:=A0_.mk (HB5.out.trans (lower_ HB5.out.size hb10));clear hb10 SY HX5 HLK5 HB5))
      clear y0 y1 y2 y3 y4 y5 y6 y7 y8 y9 y10
      have y10 : w10.cell? ⟨q,10,none⟩ = some (.slice A10 c.f10.length c10):=(HX6.out.cell 10).trans rfl
      go_wp2
      repeat (go_quiet (fail);try go_wp2)
      clear y10
      (try simp only [Act.put,sA_,sB_,sC_])
      obtain ⟨NR,hNR⟩ : ∃ NR,nlF c.f10 0 = NR:=⟨_,rfl⟩
      have hr:=HRES.out
      rw [hNR] at hr
      have HRES2:=A0_.mk hr
      have HNR:=A0_.mk hNR
      clear hNR hr HRES
      go_loopg [58] (c.f10.length + 1) (fun kq v58 w' => ∃ (n : Nat),v58 = .int .i64 n ∧ A0_ (n + kq = c.f10.length + 1) ∧ A0_ (n ≤ c.f10.length) ∧ A0_ (Below w.heap.size w w') ∧ A0_ (nlF (c.f10.drop n) n = NR) ∧ A0_ (LK w' lg bk c ⟨A1,A2,A3,A4,A5,A6,A7,A8,A9,A10,c1,c2,c3,c4,c5,c6,c7,c8,c9,c10⟩ by9))
      case atStart => exact ⟨0,rfl,⟨by omega⟩,⟨Nat.zero_le _⟩,HB6,⟨by rw [List.drop_zero];exact HNR.out⟩,HLK6⟩
      case round =>
       clear HB6 HNR HX6 HLK6
       obtain ⟨n,rfl,HKN,HNL,HB,HNR,HLK⟩:=hrel
       by_cases cn : n < c.f10.length
       ·obtain ⟨k1,rfl⟩ : ∃ k1,gk = k1 + 1:=by
         cases gk with
         |zero => have:=HKN.out;omega
         |succ k1 => exact ⟨k1,rfl⟩
        have cnb : decide ((n : Int) < (c.f10.length : Int)) = true:=decide_eq_true (by omega)
        have p0 : (0 ≤ (n : Int)) = True:=eq_true (by omega)
        have p1 : ((n : Int) < (c.f10.length : Int)) = True:=eq_true (by omega)
        have hw1 : IntKind.i64.wrap ((n : Int) + 1) = ((n + 1 : Nat) : Int):=by have:=HSH.out.l10;rw [IntKind.wrap_i64];omega
        obtain ⟨ad,ea,hs⟩:=C_str_get (HC.out.below HB.out).r10 n cn
        have ea : A10 = some ad:=ea
        subst ea
        have hr:=HNR.out
        rw [List.drop_eq_getElem_cons cn,nlF] at hr
        have hsz:=HS10.out c.f10[n] (List.getElem_mem _)
        generalize c.f10[n] = s at hs hr hsz
        have kb:=print_bytes (P:=Tryz.prog) 9 132 5 Tryz.underlying9 Tryz.underlying132 Tryz.underlying5 s wr
        have hrd:=C_bytes (bytes_reads wr 5 s (by omega))
        have hb11 : Below w.heap.size w (Lib.bytesWorld wr 5 s):=bytes_below HB.out HB.out.size 5 s
        have hlk11:=HLK.out.below (bytes_below (Below.refl wr.heap.size wr) (Nat.le_refl _) 5 s)
        have hbl:=bytesOf_length s
        have CC:=contains_calls (cp:=grownCap wr s.size 0 5) hrd 10 (by rw [hbl];exact hsz)
        rw [hbl] at CC
        have hbb : byteInts s = bytesOf s:=rfl
        rw [hbb] at hr
        generalize idxF 10 (bytesOf s) 0 = ix at hr CC
        have CC:=A0_.mk CC
        have HB11:=A0_.mk hb11
        have HLK11:=A0_.mk hlk11
        have NRR:=A0_.mk hr
        clear hr hrd hb11 hlk11 hbl hbb HNR HB HLK
        generalize Lib.bytesWorld wr 5 s = w11 at kb CC HB11 HLK11
        generalize grownCap wr s.size 0 5 = cp at kb CC
        by_cases cix : 0 ≤ ix
        ·have hr:=NRR.out
         rw [if_pos cix] at hr
         have hr2:=HRES2.out
         rw [← hr,if_pos (by omega)] at hr2
         have cixb : decide (0 ≤ ix) = true:=decide_eq_true cix
         subst hr2
         clear hr HRES2 NRR
         rw [cixb] at CC
         go_wp2_with (first|((with_reducible refine gate_callee (f:=89) rfl ?_);refine goesL_ (some 65) rfl rfl Tryz.func89 (by kernel_rfl) rfl #[.slice (some ⟨wr.heap.size,0,none⟩) s.size cp,.int .u8 10] rfl (by (try simp only [List.map_toArray,List.map_cons,List.map_nil]);first|done|rfl) ?_;(with_reducible refine (CC.out).mono ?_);rintro e w12 ⟨rfl,rfl⟩;refine ⟨_,rfl,?_⟩)|go_in)
         repeat (go_quiet (fail);try go_wp2)
         show bodyPost _ _ _ _ _ _
         refine bodyPost_ret (results_tmp3 rfl _ _ _) rfl ?_
         exact ⟨⟨_,rfl⟩,HB11.out⟩
        ·have hr:=NRR.out
         rw [if_neg cix] at hr
         have HNR:=A0_.mk hr
         have cixb : decide (0 ≤ ix) = false:=decide_eq_false cix
         rw [cixb] at CC
         clear hr NRR
         go_wp2_with (first|((with_reducible refine gate_callee (f:=89) rfl ?_);refine goesL_ (some 65) rfl rfl Tryz.func89 (by kernel_rfl) rfl #[.slice (some ⟨wr.heap.size,0,none⟩) s.size cp,.int .u8 10] rfl (by (try simp only [List.map_toArray,List.map_cons,List.map_nil]);first|done|rfl) ?_;(with_reducible refine (CC.out).mono ?_);rintro e w12 ⟨rfl,rfl⟩;refine ⟨_,rfl,?_⟩)|go_in)
         repeat (go_quiet (fail);try go_wp2)
         go_roundg k1
         case measure => omega
         case rel => exact ⟨n + 1,rfl,⟨by have:=HKN.out;omega⟩,⟨by omega⟩,HB11,HNR,HLK11⟩
       ·have cnb : decide ((n : Int) < (c.f10.length : Int)) = false:=decide_eq_false (by omega)
        have hr:=HNR.out
        rw [List.drop_eq_nil_of_le (by omega),nlF] at hr
        have hr2:=HRES2.out
        rw [← hr,if_neg (by decide)] at hr2
        subst hr2
        clear hr HNR HRES2
        go_wp2
        repeat (go_quiet (fail);try go_wp2)
        show bodyPost _ _ _ _ _ _
        refine bodyPost_ret (results_tmp3 rfl _ _ _) rfl ?_
        exact ⟨⟨_,rfl,lg,rfl,bk,by rw [HDB.out];exact HLK.out⟩,HB.out⟩
   ·rw [if_pos cu] at hr
    have cub : (u2 == 0) = false:=beq_eq_false_iff_ne.mpr cu
    subst hr
    go_wp2_with (first|((with_reducible refine gate_callee (f:=86) rfl ?_);refine goesL_ (some 38) rfl rfl Tryz.func86 (by kernel_rfl) rfl #[.pointer (some ⟨lg,0,none⟩)] rfl (by (try simp only [List.map_toArray,List.map_cons,List.map_nil]);first|done|rfl) ?_;(with_reducible refine (UC.out).mono ?_);rintro e w8 ⟨rfl,hb8⟩;refine ⟨_,rfl,?_⟩;have HLK4:=A0_.mk (HLK.out.below hb8);have HX4:=A0_.mk (HX3.out.below hb8);have HB4:=A0_.mk (HB3.out.trans (lower_ HB3.out.size hb8));clear hb8 UC HLK HX3 HB3)|go_in)
    repeat (go_quiet (fail);try go_wp2)
    show bodyPost _ _ _ _ _ _
    refine bodyPost_ret (results_tmp3 rfl _ _ _) rfl ?_
    exact ⟨⟨_,rfl⟩,HB4.out⟩
  ·rw [if_pos cr] at hr
   have crb : (r2 == 0) = false:=beq_eq_false_iff_ne.mpr cr
   subst hr
   go_wp2_with (first|((with_reducible refine gate_callee (f:=85) rfl ?_);refine goesL_ (some 29) rfl rfl Tryz.func85 (by kernel_rfl) rfl #[.pointer (some ⟨lg,0,none⟩)] rfl (by (try simp only [List.map_toArray,List.map_cons,List.map_nil]);first|done|rfl) ?_;(with_reducible refine (DC.out).mono ?_);rintro e w7 ⟨rfl,hlk,hb7⟩;refine ⟨_,rfl,?_⟩;have HLK:=A0_.mk hlk;have HX3:=A0_.mk (HX20.out.below hb7);have HB3:=A0_.mk (HBW.out.trans (lower_ HBW.out.size hb7));have HC3:=A0_.mk hb7;clear hlk hb7 DC)|go_in)
   repeat (go_quiet (fail);try go_wp2)
   show bodyPost _ _ _ _ _ _
   refine bodyPost_ret (results_tmp3 rfl _ _ _) rfl ?_
   exact ⟨⟨_,rfl⟩,HB3.out⟩
 ·rw [if_pos cz] at hr
  have czb : (z == 0) = false:=beq_eq_false_iff_ne.mpr cz
  subst hr
  clear hz
  go_wp2_with (first|((with_reducible refine gate_callee (f:=84) rfl ?_);refine goesL_ (some 16) rfl rfl Tryz.func84 (by kernel_rfl) rfl #[.agg #[.int .i64 c.f0,.slice A1 c.f1.length c1,.slice A2 c.f2.length c2,.slice A3 c.f3.length c3,.slice A4 c.f4.length c4,.slice A5 c.f5.length c5,.slice A6 c.f6.length c6,.slice A7 c.f7.length c7,.slice A8 c.f8.length c8,.slice A9 c.f9.length c9,.slice A10 c.f10.length c10]] rfl (by (try simp only [List.map_toArray,List.map_cons,List.map_nil]);first|done|rfl) ?_;(with_reducible refine (HSZ.out).mono ?_);rintro e w2 ⟨rfl,hb2⟩;refine ⟨_,rfl,?_⟩;have HX2:=A0_.mk (HX.out.below hb2);have HB2:=A0_.mk (HB.out.trans (lower_ HB.out.size hb2));clear hb2 HSZ HX HB)|go_in)
  repeat (go_quiet (fail);try go_wp2)
  show bodyPost _ _ _ _ _ _
  refine bodyPost_ret (results_tmp3 rfl _ _ _) rfl ?_
  exact ⟨⟨_,rfl⟩,HB2.out⟩
set_option maxHeartbeats 4000000 in
set_option maxRecDepth 100000 in
theorem check_calls {c : S65} {a : CA} {w : World} (hC : CR w c a) (hK : Caps c a) (hj : ∀ r ∈ c.f6,r.length ≤ 140737488355328) (hs10 : ∀ s ∈ c.f10,s.size ≤ 1099511627776) :
  Calls Tryz.prog 24 #[.agg (cellsC c a)] w fun e w' => e = .returned (.tuple #[.int .i64 (lookF c).1,.int .i64 (lookF c).2]) ∧ Below w.heap.size w w':=by
 have hu65:=Tryz.underlying29
 have HC:=A0_.mk hC
 have HCAP:=A0_.mk hK
 have HJ:=A0_.mk hj
 have HS10:=A0_.mk hs10
 obtain ⟨RES,hRES⟩ : ∃ RES,lookF c = RES:=⟨_,rfl⟩
 rw [hRES]
 have HRES:=A0_.mk hRES
 clear hC hK hj hs10 hRES
 obtain ⟨A1,A2,A3,A4,A5,A6,A7,A8,A9,A10,c1,c2,c3,c4,c5,c6,c7,c8,c9,c10⟩:=a
 unfold cellsC
 go_enter Tryz.func24,Tryz.ntmps24
 go_upto_region 1 with (fail)
 have hX : BX (w.alloc (.cells #[.int .i64 c.f0,.slice A1 c.f1.length c1,.slice A2 c.f2.length c2,.slice A3 c.f3.length c3,.slice A4 c.f4.length c4,.slice A5 c.f5.length c5,.slice A6 c.f6.length c6,.slice A7 c.f7.length c7,.slice A8 c.f8.length c8,.slice A9 c.f9.length c9,.slice A10 c.f10.length c10] 29)) w.heap.size c ⟨A1,A2,A3,A4,A5,A6,A7,A8,A9,A10,c1,c2,c3,c4,c5,c6,c7,c8,c9,c10⟩:=blk_new w _
 have hB : Below w.heap.size w (w.alloc (.cells #[.int .i64 c.f0,.slice A1 c.f1.length c1,.slice A2 c.f2.length c2,.slice A3 c.f3.length c3,.slice A4 c.f4.length c4,.slice A5 c.f5.length c5,.slice A6 c.f6.length c6,.slice A7 c.f7.length c7,.slice A8 c.f8.length c8,.slice A9 c.f9.length c9,.slice A10 c.f10.length c10] 29)):=eA_ (Below.refl _ _) _
 have HB:=A0_.mk hB
 have hLC:=look_ok (HC.out.below hB) HCAP.out HJ.out HS10.out
 rw [HRES.out] at hLC
 dsimp only [cellsC] at hLC
 have LC:=A0_.mk hLC
 clear hB hLC
 obtain ⟨q,hq⟩ : ∃ q,w.heap.size = q:=⟨_,rfl⟩
 have hX2 : BX (w.alloc (.cells #[.int .i64 c.f0,.slice A1 c.f1.length c1,.slice A2 c.f2.length c2,.slice A3 c.f3.length c3,.slice A4 c.f4.length c4,.slice A5 c.f5.length c5,.slice A6 c.f6.length c6,.slice A7 c.f7.length c7,.slice A8 c.f8.length c8,.slice A9 c.f9.length c9,.slice A10 c.f10.length c10] 29)) q c ⟨A1,A2,A3,A4,A5,A6,A7,A8,A9,A10,c1,c2,c3,c4,c5,c6,c7,c8,c9,c10⟩:=hq ▸ hX
 have HX:=A0_.mk hX2
 clear hX hX2
 rw [hq]
 clear hq
 generalize w.alloc (.cells #[.int .i64 c.f0,.slice A1 c.f1.length c1,.slice A2 c.f2.length c2,.slice A3 c.f3.length c3,.slice A4 c.f4.length c4,.slice A5 c.f5.length c5,.slice A6 c.f6.length c6,.slice A7 c.f7.length c7,.slice A8 c.f8.length c8,.slice A9 c.f9.length c9,.slice A10 c.f10.length c10] 29) = W at HB LC HX ⊢
 have y0 : W.cell? ⟨q,0,none⟩ = some (.int .i64 c.f0):=(HX.out.cell 0).trans rfl
 have y1 : W.cell? ⟨q,1,none⟩ = some (.slice A1 c.f1.length c1):=(HX.out.cell 1).trans rfl
 have y2 : W.cell? ⟨q,2,none⟩ = some (.slice A2 c.f2.length c2):=(HX.out.cell 2).trans rfl
 have y3 : W.cell? ⟨q,3,none⟩ = some (.slice A3 c.f3.length c3):=(HX.out.cell 3).trans rfl
 have y4 : W.cell? ⟨q,4,none⟩ = some (.slice A4 c.f4.length c4):=(HX.out.cell 4).trans rfl
 have y5 : W.cell? ⟨q,5,none⟩ = some (.slice A5 c.f5.length c5):=(HX.out.cell 5).trans rfl
 have y6 : W.cell? ⟨q,6,none⟩ = some (.slice A6 c.f6.length c6):=(HX.out.cell 6).trans rfl
 have y7 : W.cell? ⟨q,7,none⟩ = some (.slice A7 c.f7.length c7):=(HX.out.cell 7).trans rfl
 have y8 : W.cell? ⟨q,8,none⟩ = some (.slice A8 c.f8.length c8):=(HX.out.cell 8).trans rfl
 have y9 : W.cell? ⟨q,9,none⟩ = some (.slice A9 c.f9.length c9):=(HX.out.cell 9).trans rfl
 have y10 : W.cell? ⟨q,10,none⟩ = some (.slice A10 c.f10.length c10):=(HX.out.cell 10).trans rfl
 go_wp2_with (first|((with_reducible refine gate_callee (f:=59) rfl ?_);refine goesL_ (some 6) rfl rfl Tryz.func59 (by kernel_rfl) rfl #[.agg #[.int .i64 c.f0,.slice A1 c.f1.length c1,.slice A2 c.f2.length c2,.slice A3 c.f3.length c3,.slice A4 c.f4.length c4,.slice A5 c.f5.length c5,.slice A6 c.f6.length c6,.slice A7 c.f7.length c7,.slice A8 c.f8.length c8,.slice A9 c.f9.length c9,.slice A10 c.f10.length c10]] rfl (by (try simp only [List.map_toArray,List.map_cons,List.map_nil]);first|done|rfl) ?_;(with_reducible refine (LC.out).mono ?_);rintro e w2 ⟨⟨p,rfl,-⟩,hb2⟩;refine ⟨_,rfl,?_⟩;have HB2:=A0_.mk (HB.out.trans (lower_ HB.out.size hb2));clear hb2 LC HX HB)|go_in)
 repeat (go_quiet (fail);try go_wp2)
 show bodyPost _ _ _ _ _ _
 refine bodyPost_ret (results_tmp2 rfl _ _ _) rfl ?_
 exact ⟨rfl,HB2.out⟩
end Go.Proofs.YtdmngdohlobogaaGreatDoor.Asc

