import Derived.Test.YtdmngdohlobogaaGreatDoorYBRenM
import Derived.Laws.EntriesVeiled
namespace Go.Proofs.YtdmngdohlobogaaGreatDoor.Asc
open Go Go.RowKit Go.Proofs.YtdmngdohlobogaaGreatDoorW.PrintWords Go.Proofs.YtdmngdohlobogaaGreatDoorW.PrintLast Go.Proofs.YtdmngdohlobogaaGreatDoorW.PrintMore
set_option linter.unusedVariables false
set_option linter.unusedSimpArgs false
def ordl (n : Nat) : List Int:=(List.range n).map (fun i : Nat => (i : Int))
theorem ordl_len (n : Nat) : (ordl n).length = n:=by simp [ordl]
theorem ordl_get (n i : Nat) (h : i < (ordl n).length) : (ordl n)[i] = (i : Int):=by simp [ordl]
set_option maxHeartbeats 16000000 in
set_option maxRecDepth 100000 in
theorem renum_calls {c : S65} {a : CA} {w : World} (hBin : Bin c) (hL0 : (lookF c).2 = 0) (hC : CR w c a) (hK : Caps c a) (hj : ∀ r ∈ c.f6,r.length ≤ 16384) (hs10 : ∀ s ∈ c.f10,s.size ≤ 1099511627776) :
  Calls Tryz.prog 15 #[.agg (cellsC c a)] w fun e w' => ∃ a' u,e = .returned (.tuple #[.agg (cellsC c a'),u,.int .i64 0]) ∧ CR w' c a' ∧ Below w.heap.size w w':=by
 have hu65:=Tryz.underlying29
 have hu61:=Tryz.underlying61
 have hu75:=Tryz.underlying75
 obtain ⟨k0,_⟩:=look0 hL0
 have HSH:=A0_.mk (sizes_short k0.sz)
 clear k0
 have HBIN:=A0_.mk hBin
 have HL0:=A0_.mk hL0
 have HC:=A0_.mk hC
 have HK:=A0_.mk hK
 have HJL:=A0_.mk hj
 have HS10:=A0_.mk hs10
 clear hBin hL0 hC hK hj hs10
 obtain ⟨A1,A2,A3,A4,A5,A6,A7,A8,A9,A10,c1,c2,c3,c4,c5,c6,c7,c8,c9,c10⟩:=a
 unfold cellsC
 obtain ⟨N,hN⟩ : ∃ N : Nat,N = c.f1.length + c.f2.length + c.f8.length:=⟨_,rfl⟩
 have HN : A0_ (c.f0 = (N : Int)):=⟨by rw [HBIN.out.mx,hN];omega⟩
 have HNS:=A0_.mk hN
 have HNL : A0_ (N ≤ 16384):=⟨by have:=HN.out;have:=HSH.out.m1;omega⟩
 clear hN
 go_enter Tryz.func15,Tryz.ntmps15
 go_upto_region 1 with (fail)
 have hx1 : BX ((w.alloc (.cells #[.int .i64 c.f0,.slice A1 c.f1.length c1,.slice A2 c.f2.length c2,.slice A3 c.f3.length c3,.slice A4 c.f4.length c4,.slice A5 c.f5.length c5,.slice A6 c.f6.length c6,.slice A7 c.f7.length c7,.slice A8 c.f8.length c8,.slice A9 c.f9.length c9,.slice A10 c.f10.length c10] 29)).alloc (.cells #[.int .i64 0,.slice none 0 0,.slice none 0 0,.slice none 0 0,.slice none 0 0,.slice none 0 0,.slice none 0 0,.slice none 0 0,.slice none 0 0,.slice none 0 0,.slice none 0 0] 29)) w.heap.size c ⟨A1,A2,A3,A4,A5,A6,A7,A8,A9,A10,c1,c2,c3,c4,c5,c6,c7,c8,c9,c10⟩:=bA_ (blk_new w _) _
 have hx2 : ((w.alloc (.cells #[.int .i64 c.f0,.slice A1 c.f1.length c1,.slice A2 c.f2.length c2,.slice A3 c.f3.length c3,.slice A4 c.f4.length c4,.slice A5 c.f5.length c5,.slice A6 c.f6.length c6,.slice A7 c.f7.length c7,.slice A8 c.f8.length c8,.slice A9 c.f9.length c9,.slice A10 c.f10.length c10] 29)).alloc (.cells #[.int .i64 0,.slice none 0 0,.slice none 0 0,.slice none 0 0,.slice none 0 0,.slice none 0 0,.slice none 0 0,.slice none 0 0,.slice none 0 0,.slice none 0 0,.slice none 0 0] 29)).heap[w.heap.size + 1]? = some (.cells #[.int .i64 0,.slice none 0 0,.slice none 0 0,.slice none 0 0,.slice none 0 0,.slice none 0 0,.slice none 0 0,.slice none 0 0,.slice none 0 0,.slice none 0 0,.slice none 0 0] 29 (0,0)):=by have:=blk_new (w.alloc (.cells #[.int .i64 c.f0,.slice A1 c.f1.length c1,.slice A2 c.f2.length c2,.slice A3 c.f3.length c3,.slice A4 c.f4.length c4,.slice A5 c.f5.length c5,.slice A6 c.f6.length c6,.slice A7 c.f7.length c7,.slice A8 c.f8.length c8,.slice A9 c.f9.length c9,.slice A10 c.f10.length c10] 29)) (.cells #[.int .i64 0,.slice none 0 0,.slice none 0 0,.slice none 0 0,.slice none 0 0,.slice none 0 0,.slice none 0 0,.slice none 0 0,.slice none 0 0,.slice none 0 0,.slice none 0 0] 29);rw [World.size_alloc] at this;exact this
 have hb0 : Below w.heap.size w ((w.alloc (.cells #[.int .i64 c.f0,.slice A1 c.f1.length c1,.slice A2 c.f2.length c2,.slice A3 c.f3.length c3,.slice A4 c.f4.length c4,.slice A5 c.f5.length c5,.slice A6 c.f6.length c6,.slice A7 c.f7.length c7,.slice A8 c.f8.length c8,.slice A9 c.f9.length c9,.slice A10 c.f10.length c10] 29)).alloc (.cells #[.int .i64 0,.slice none 0 0,.slice none 0 0,.slice none 0 0,.slice none 0 0,.slice none 0 0,.slice none 0 0,.slice none 0 0,.slice none 0 0,.slice none 0 0,.slice none 0 0] 29)):=eA_ (eA_ (Below.refl _ _) _) _
 have hl2 : A0_ (w.heap.size ≤ w.heap.size + 1):=⟨by omega⟩
 obtain ⟨b2,hb2⟩ : ∃ b,w.heap.size + 1 = b:=⟨_,rfl⟩
 rw [hb2] at hx2 hl2 ⊢
 clear hb2
 obtain ⟨b1,hb1⟩ : ∃ b,w.heap.size = b:=⟨_,rfl⟩
 have hx1b : BX ((w.alloc (.cells #[.int .i64 c.f0,.slice A1 c.f1.length c1,.slice A2 c.f2.length c2,.slice A3 c.f3.length c3,.slice A4 c.f4.length c4,.slice A5 c.f5.length c5,.slice A6 c.f6.length c6,.slice A7 c.f7.length c7,.slice A8 c.f8.length c8,.slice A9 c.f9.length c9,.slice A10 c.f10.length c10] 29)).alloc (.cells #[.int .i64 0,.slice none 0 0,.slice none 0 0,.slice none 0 0,.slice none 0 0,.slice none 0 0,.slice none 0 0,.slice none 0 0,.slice none 0 0,.slice none 0 0,.slice none 0 0] 29)) b1 c ⟨A1,A2,A3,A4,A5,A6,A7,A8,A9,A10,c1,c2,c3,c4,c5,c6,c7,c8,c9,c10⟩:=hb1 ▸ hx1
 rw [hb1]
 clear hb1 hx1
 have HX1:=A0_.mk hx1b
 have HX2:=A0_.mk hx2
 have HB0:=A0_.mk hb0
 clear hx1b hx2 hb0
 generalize (w.alloc (.cells #[.int .i64 c.f0,.slice A1 c.f1.length c1,.slice A2 c.f2.length c2,.slice A3 c.f3.length c3,.slice A4 c.f4.length c4,.slice A5 c.f5.length c5,.slice A6 c.f6.length c6,.slice A7 c.f7.length c7,.slice A8 c.f8.length c8,.slice A9 c.f9.length c9,.slice A10 c.f10.length c10] 29)).alloc (.cells #[.int .i64 0,.slice none 0 0,.slice none 0 0,.slice none 0 0,.slice none 0 0,.slice none 0 0,.slice none 0 0,.slice none 0 0,.slice none 0 0,.slice none 0 0,.slice none 0 0] 29) = W0 at HX1 HX2 HB0 ⊢
 have y0 : W0.cell? ⟨b1,0,none⟩ = some (.int .i64 c.f0):=(HX1.out.cell 0).trans rfl
 have y1 : W0.cell? ⟨b1,1,none⟩ = some (.slice A1 c.f1.length c1):=(HX1.out.cell 1).trans rfl
 have y2 : W0.cell? ⟨b1,2,none⟩ = some (.slice A2 c.f2.length c2):=(HX1.out.cell 2).trans rfl
 have y3 : W0.cell? ⟨b1,3,none⟩ = some (.slice A3 c.f3.length c3):=(HX1.out.cell 3).trans rfl
 have y4 : W0.cell? ⟨b1,4,none⟩ = some (.slice A4 c.f4.length c4):=(HX1.out.cell 4).trans rfl
 have y5 : W0.cell? ⟨b1,5,none⟩ = some (.slice A5 c.f5.length c5):=(HX1.out.cell 5).trans rfl
 have y6 : W0.cell? ⟨b1,6,none⟩ = some (.slice A6 c.f6.length c6):=(HX1.out.cell 6).trans rfl
 have y7 : W0.cell? ⟨b1,7,none⟩ = some (.slice A7 c.f7.length c7):=(HX1.out.cell 7).trans rfl
 have y8 : W0.cell? ⟨b1,8,none⟩ = some (.slice A8 c.f8.length c8):=(HX1.out.cell 8).trans rfl
 have y9 : W0.cell? ⟨b1,9,none⟩ = some (.slice A9 c.f9.length c9):=(HX1.out.cell 9).trans rfl
 have y10 : W0.cell? ⟨b1,10,none⟩ = some (.slice A10 c.f10.length c10):=(HX1.out.cell 10).trans rfl
 have hOC:=orderF_calls HL0.out (HC.out.below HB0.out) HK.out (fun r hr => Nat.le_trans (HJL.out r hr) (by decide)) HS10.out
 dsimp only [cellsC] at hOC
 rw [HBIN.out.od] at hOC
 have OC:=A0_.mk hOC
 clear hOC
 go_upto_region 2 with ((with_reducible refine gate_callee (f:=38) rfl ?_);refine goesL_ (some 29) rfl rfl Tryz.func38 (by kernel_rfl) rfl #[.agg #[.int .i64 c.f0,.slice A1 c.f1.length c1,.slice A2 c.f2.length c2,.slice A3 c.f3.length c3,.slice A4 c.f4.length c4,.slice A5 c.f5.length c5,.slice A6 c.f6.length c6,.slice A7 c.f7.length c7,.slice A8 c.f8.length c8,.slice A9 c.f9.length c9,.slice A10 c.f10.length c10]] rfl (by (try simp only [List.map_toArray,List.map_cons,List.map_nil]);first|done|rfl) ?_;(with_reducible refine (OC.out).mono ?_);rintro e W1 ⟨u,rfl,hu,hb⟩;refine ⟨_,rfl,?_⟩;have HU:=A0_.mk hu;have HBA:=A0_.mk hb;clear hu hb OC)
 clear y0 y1 y2 y3 y4 y5 y6 y7 y8 y9 y10
 have hu1 : OwnI W1 W0.heap.size u (ordl c.f8.length):=HU.out
 clear HU
 obtain ⟨AO,co,rfl⟩:=Kd.R_slice hu1
 rw [ordl_len] at hu1 ⊢
 have HO1 : A0_ (Kd.C (Kd.int .i64) W1 AO (ordl c.f8.length).length (ordl c.f8.length)):=⟨by have:=(Kd.R_reads' hu1).2.2;exact this⟩
 have HX1b:=A0_.mk (HX1.out.below HBA.out)
 have HX2b:=A0_.mk (blk_below HX2.out HBA.out)
 have HB1:=A0_.mk (HB0.out.trans (lower_ HB0.out.size HBA.out))
 have HL2 : A0_ (w.heap.size ≤ b2 ∧ b2 < W1.heap.size):=⟨⟨hl2.out,blk_lt HX2b.out⟩⟩
 clear hu1 HX1 HX2 HBA HB0 hl2
 obtain ⟨NN,hNN⟩ : ∃ NN,NN = N + 1:=⟨_,rfl⟩
 have HNN:=A0_.mk hNN
 clear hNN
 have m1:=make47 W1 NN (by have:=HNL.out;have:=HNN.out;omega)
 have hw0 : IntKind.i64.wrap (c.f0 + 1) = (NN : Int):=by have:=HN.out;have:=HNL.out;have:=HNN.out;rw [IntKind.wrap_i64];omega
 have y0 : W1.cell? ⟨b1,0,none⟩ = some (.int .i64 c.f0):=(HX1b.out.cell 0).trans rfl
 go_upto_region 7 with (fail)
 clear m1 hw0 y0
 have hNN:=HNN.out
 subst hNN
 clear HNN
 have hto : TO (((W1.alloc (.cells (encI (List.replicate (N + 1) 0)).toArray 3)).alloc (.cells #[.slice (some ⟨W1.heap.size,0,none⟩) (N + 1) (N + 1)] 22)).alloc (.cells #[.int .i64 0] 3)) (W1.heap.size + 1) (W1.heap.size + 1 + 1) W1.heap.size N 0:=⟨by have:=bA_ (blk_new (W1.alloc (.cells (encI (List.replicate (N + 1) 0)).toArray 3)) (.cells #[.slice (some ⟨W1.heap.size,0,none⟩) (N + 1) (N + 1)] 22)) (.cells #[.int .i64 0] 3);rw [World.size_alloc] at this;exact this,by have:=blk_new ((W1.alloc (.cells (encI (List.replicate (N + 1) 0)).toArray 3)).alloc (.cells #[.slice (some ⟨W1.heap.size,0,none⟩) (N + 1) (N + 1)] 22)) (.cells #[.int .i64 0] 3);rw [World.size_alloc,World.size_alloc] at this;exact this,by rw [tol_zero];exact bA_ (bA_ (blk_new W1 _) _) _,by omega,by omega,by omega⟩
 have hsz : W1.heap.size < (((W1.alloc (.cells (encI (List.replicate (N + 1) 0)).toArray 3)).alloc (.cells #[.slice (some ⟨W1.heap.size,0,none⟩) (N + 1) (N + 1)] 22)).alloc (.cells #[.int .i64 0] 3)).heap.size ∧ W1.heap.size + 1 < (((W1.alloc (.cells (encI (List.replicate (N + 1) 0)).toArray 3)).alloc (.cells #[.slice (some ⟨W1.heap.size,0,none⟩) (N + 1) (N + 1)] 22)).alloc (.cells #[.int .i64 0] 3)).heap.size ∧ W1.heap.size + 1 + 1 < (((W1.alloc (.cells (encI (List.replicate (N + 1) 0)).toArray 3)).alloc (.cells #[.slice (some ⟨W1.heap.size,0,none⟩) (N + 1) (N + 1)] 22)).alloc (.cells #[.int .i64 0] 3)).heap.size:=by rw [World.size_alloc,World.size_alloc,World.size_alloc];omega
 obtain ⟨g8,hg8⟩ : ∃ b,W1.heap.size + 1 + 1 = b:=⟨_,rfl⟩
 have HG8 : A0_ (W1.heap.size ≤ g8):=⟨by omega⟩
 rw [hg8] at hto hsz ⊢
 clear hg8
 obtain ⟨g7,hg7⟩ : ∃ b,W1.heap.size + 1 = b:=⟨_,rfl⟩
 rw [hg7] at hto hsz ⊢
 clear hg7
 obtain ⟨gT,hgT⟩ : ∃ b,W1.heap.size = b:=⟨_,rfl⟩
 have HGT : A0_ (W1.heap.size ≤ gT):=⟨by omega⟩
 rw [hgT] at hto ⊢
 clear hgT hsz
 have HTO:=A0_.mk hto
 have hbt : Below W1.heap.size W1 (((W1.alloc (.cells (encI (List.replicate (N + 1) 0)).toArray 3)).alloc (.cells #[.slice (some ⟨gT,0,none⟩) (N + 1) (N + 1)] 22)).alloc (.cells #[.int .i64 0] 3)):=eA_ (eA_ (eA_ (Below.refl _ _) _) _) _
 have HB2:=A0_.mk hbt
 clear hto hbt
 generalize ((W1.alloc (.cells (encI (List.replicate (N + 1) 0)).toArray 3)).alloc (.cells #[.slice (some ⟨gT,0,none⟩) (N + 1) (N + 1)] 22)).alloc (.cells #[.int .i64 0] 3) = W2 at HTO HB2 ⊢
 have y1 : W2.cell? ⟨b1,1,none⟩ = some (.slice A1 c.f1.length c1):=(bC_ (blk_below HX1b.out HB2.out) 1).trans rfl
 go_wp2
 clear y1
 (try simp only [Act.put,sA_,sB_,sC_])
 go_loopg [44] (c.f1.length + 1) (fun kq v44 w' => ∃ (n : Nat),v44 = .int .i64 n ∧ A0_ (n + kq = c.f1.length + 1) ∧ A0_ (n ≤ c.f1.length) ∧ A0_ (Below W1.heap.size W1 w') ∧ A0_ (TO w' g7 g8 gT N (n)))
 case atStart => exact ⟨0,rfl,⟨by omega⟩,⟨Nat.zero_le _⟩,HB2,HTO⟩
 case round =>
  clear HB2 HTO
  obtain ⟨n,rfl,HKN,HNL2,HB,HTO⟩:=hrel
  by_cases cn : n < c.f1.length
  ·obtain ⟨k1,rfl⟩ : ∃ k1,gk = k1 + 1:=by
    cases gk with
    |zero => have:=HKN.out;omega
    |succ k1 => exact ⟨k1,rfl⟩
   have cnb : decide ((n : Int) < (c.f1.length : Int)) = true:=decide_eq_true (by omega)
   have p0 : (0 ≤ (n : Int)) = True:=eq_true (by omega)
   have p1 : ((n : Int) < (c.f1.length : Int)) = True:=eq_true (by omega)
   have hw1 : IntKind.i64.wrap ((n : Int) + 1) = ((n + 1 : Nat) : Int):=by have:=HSH.out.l1;have:=HSH.out.l2;have:=HSH.out.l8;rw [IntKind.wrap_i64];omega
   have GC:=A0_.mk (giveN_calls HTO.out (by have:=HNS.out;omega) HNL.out)
   obtain ⟨ad,ea,hc⟩:=C_int_get (Kd.C_below (Kd.C_below HC.out.r1 HB1.out) HB.out) n cn
   have ea : A1 = some ad:=ea
   subst ea
   have hx:=HBIN.out.i1 n _ (List.getElem?_eq_getElem cn)
   rw [hx] at hc
   clear hx
   go_wp2_with (first|((with_reducible refine gate_value (t:=48) rfl ?_);refine goesC_ (some 50) rfl rfl Tryz.func39 (by kernel_rfl) rfl #[.int .i64 (2 * ((n : Int) + 1))] #[.pointer (some ⟨g8,0,none⟩),.pointer (some ⟨g7,0,none⟩)] #[.int .i64 (2 * ((n : Int) + 1)),.pointer (some ⟨g8,0,none⟩),.pointer (some ⟨g7,0,none⟩)] rfl rfl (by (try simp only [List.map_toArray,List.map_cons,List.map_nil]);first|done|rfl) rfl ?_;(with_reducible refine (GC.out).mono ?_);rintro e w4 ⟨rfl,rfl⟩;refine ⟨_,rfl,?_⟩)|go_in)
   repeat (go_quiet (fail);try go_wp2)
   have HBn:=A0_.mk (giveW_below HB.out HG8.out HGT.out (m:=n))
   have HTOn:=A0_.mk (HTO.out.give (by have:=HNS.out;omega))
   go_roundg k1
   case measure => omega
   case rel => exact ⟨n + 1,rfl,⟨by have:=HKN.out;omega⟩,⟨by omega⟩,HBn,HTOn⟩
  ·have cnb : decide ((n : Int) < (c.f1.length : Int)) = false:=decide_eq_false (by omega)
   have hn : n = c.f1.length:=by have:=HNL2.out;omega
   have HB3:=HB
   have hto:=HTO.out
   rw [hn] at hto
   clear HTO
   have HTO:=A0_.mk hto
   clear hto hn HB HKN HNL2
   have y2 : wr.cell? ⟨b1,2,none⟩ = some (.slice A2 c.f2.length c2):=(bC_ (blk_below HX1b.out HB3.out) 2).trans rfl
   go_wp2
   clear y2
   (try simp only [Act.put,sA_,sB_,sC_])
   go_loopg [55] (c.f2.length + 1) (fun kq v55 w' => ∃ (n : Nat),v55 = .int .i64 n ∧ A0_ (n + kq = c.f2.length + 1) ∧ A0_ (n ≤ c.f2.length) ∧ A0_ (Below W1.heap.size W1 w') ∧ A0_ (TO w' g7 g8 gT N (c.f1.length + n)))
   case atStart => exact ⟨0,rfl,⟨by omega⟩,⟨Nat.zero_le _⟩,HB3,HTO⟩
   case round =>
    clear HB3 HTO
    obtain ⟨n,rfl,HKN,HNL2,HB,HTO⟩:=hrel
    by_cases cn : n < c.f2.length
    ·obtain ⟨k1,rfl⟩ : ∃ k1,gk = k1 + 1:=by
      cases gk with
      |zero => have:=HKN.out;omega
      |succ k1 => exact ⟨k1,rfl⟩
     have cnb : decide ((n : Int) < (c.f2.length : Int)) = true:=decide_eq_true (by omega)
     have p0 : (0 ≤ (n : Int)) = True:=eq_true (by omega)
     have p1 : ((n : Int) < (c.f2.length : Int)) = True:=eq_true (by omega)
     have hw1 : IntKind.i64.wrap ((n : Int) + 1) = ((n + 1 : Nat) : Int):=by have:=HSH.out.l1;have:=HSH.out.l2;have:=HSH.out.l8;rw [IntKind.wrap_i64];omega
     have GC:=A0_.mk (giveN_calls HTO.out (by have:=HNS.out;omega) HNL.out)
     obtain ⟨ad,ea,h0,h1,h2⟩:=C_latch_get (Kd.C_below (Kd.C_below HC.out.r2 HB1.out) HB.out) n cn
     have ea : A2 = some ad:=ea
     subst ea
     have hx:=HBIN.out.i2 n _ (List.getElem?_eq_getElem cn)
     clear GC
     generalize c.f2[n] = x at hx h0 h1 h2
     have HX0:=A0_.mk hx
     clear hx
     go_upto_region 15 with (fail)
     clear h0 h1 h2
     have hbk : (wr.alloc (.cells #[.int .i64 x.f0,.int .i64 x.f1,.int .i64 x.f2] 61)).heap[wr.heap.size]? = some (.cells #[.int .i64 x.f0,.int .i64 x.f1,.int .i64 x.f2] 61 (0,0)):=blk_new wr _
     have hba : Below wr.heap.size wr (wr.alloc (.cells #[.int .i64 x.f0,.int .i64 x.f1,.int .i64 x.f2] 61)):=eA_ (Below.refl _ _) _
     have HTOx:=A0_.mk (HTO.out.below hba)
     have HBx:=A0_.mk (HB.out.trans (lower_ HB.out.size hba))
     clear hba HTO HB
     generalize wr.heap.size = bx at hbk ⊢
     generalize wr.alloc (.cells #[.int .i64 x.f0,.int .i64 x.f1,.int .i64 x.f2] 61) = Wx at hbk HTOx HBx ⊢
     have h0 : Wx.cell? ⟨bx,0,none⟩ = some (.int .i64 x.f0):=bC_ hbk 0
     clear hbk
     have hgc:=giveN_calls HTOx.out (by have:=HNS.out;omega) HNL.out
     rw [← HX0.out] at hgc
     have GC:=A0_.mk hgc
     clear hgc
     go_wp2_with (first|((with_reducible refine gate_value (t:=59) rfl ?_);refine goesC_ (some 62) rfl rfl Tryz.func39 (by kernel_rfl) rfl #[.int .i64 (x.f0)] #[.pointer (some ⟨g8,0,none⟩),.pointer (some ⟨g7,0,none⟩)] #[.int .i64 (x.f0),.pointer (some ⟨g8,0,none⟩),.pointer (some ⟨g7,0,none⟩)] rfl rfl (by (try simp only [List.map_toArray,List.map_cons,List.map_nil]);first|done|rfl) rfl ?_;(with_reducible refine (GC.out).mono ?_);rintro e w4 ⟨rfl,rfl⟩;refine ⟨_,rfl,?_⟩)|go_in)
     repeat (go_quiet (fail);try go_wp2)
     have HBn:=A0_.mk (giveW_below HBx.out HG8.out HGT.out (m:=c.f1.length + n))
     have HTOn:=A0_.mk (HTOx.out.give (by have:=HNS.out;omega))
     go_roundg k1
     case measure => omega
     case rel => exact ⟨n + 1,rfl,⟨by have:=HKN.out;omega⟩,⟨by omega⟩,HBn,HTOn⟩
    ·have cnb : decide ((n : Int) < (c.f2.length : Int)) = false:=decide_eq_false (by omega)
     have hn : c.f1.length + n = c.f1.length + c.f2.length:=by have:=HNL2.out;omega
     have HB4:=HB
     have hto:=HTO.out
     rw [hn] at hto
     clear HTO
     have HTO:=A0_.mk hto
     clear hto hn HB HKN HNL2
     go_wp2
     (try simp only [Act.put,sA_,sB_,sC_])
     go_loopg [66] (c.f8.length + 1) (fun kq v66 w' => ∃ (n : Nat),v66 = .int .i64 n ∧ A0_ (n + kq = c.f8.length + 1) ∧ A0_ (n ≤ c.f8.length) ∧ A0_ (Below W1.heap.size W1 w') ∧ A0_ (TO w' g7 g8 gT N (c.f1.length + c.f2.length + n)))
     case atStart => exact ⟨0,rfl,⟨by omega⟩,⟨Nat.zero_le _⟩,HB4,HTO⟩
     case round =>
      clear HB4 HTO
      obtain ⟨n,rfl,HKN,HNL2,HB,HTO⟩:=hrel
      by_cases cn : n < c.f8.length
      ·obtain ⟨k1,rfl⟩ : ∃ k1,gk = k1 + 1:=by
        cases gk with
        |zero => have:=HKN.out;omega
        |succ k1 => exact ⟨k1,rfl⟩
       have cnb : decide ((n : Int) < (c.f8.length : Int)) = true:=decide_eq_true (by omega)
       have p0 : (0 ≤ (n : Int)) = True:=eq_true (by omega)
       have p1 : ((n : Int) < (c.f8.length : Int)) = True:=eq_true (by omega)
       have hw1 : IntKind.i64.wrap ((n : Int) + 1) = ((n + 1 : Nat) : Int):=by have:=HSH.out.l1;have:=HSH.out.l2;have:=HSH.out.l8;rw [IntKind.wrap_i64];omega
       have GC:=A0_.mk (giveN_calls HTO.out (by have:=HNS.out;omega) HNL.out)
       obtain ⟨ad0,ea,hc⟩:=C_int_get (Kd.C_below HO1.out HB.out) n (by rw [ordl_len];exact cn)
       have ea : AO = some ad0:=ea
       subst ea
       rw [ordl_get] at hc
       obtain ⟨ad,ea,h0,h1,h2⟩:=C_and_get (Kd.C_below (Kd.C_below HC.out.r8 HB1.out) HB.out) n cn
       have ea : A8 = some ad:=ea
       subst ea
       have hx:=(HBIN.out.i8 n _ (List.getElem?_eq_getElem cn)).1
       clear GC h1 h2
       generalize c.f8[n] = x at hx h0
       have hgc:=giveN_calls HTO.out (by have:=HNS.out;omega) HNL.out
       rw [← hx] at hgc
       have GC:=A0_.mk hgc
       clear hgc hx
       have y8 : wr.cell? ⟨b1,8,none⟩ = some (.slice (some ad) c.f8.length c8):=(bC_ (blk_below HX1b.out HB.out) 8).trans rfl
       go_wp2_with (first|((with_reducible refine gate_value (t:=70) rfl ?_);refine goesC_ (some 77) rfl rfl Tryz.func39 (by kernel_rfl) rfl #[.int .i64 (x.f0)] #[.pointer (some ⟨g8,0,none⟩),.pointer (some ⟨g7,0,none⟩)] #[.int .i64 (x.f0),.pointer (some ⟨g8,0,none⟩),.pointer (some ⟨g7,0,none⟩)] rfl rfl (by (try simp only [List.map_toArray,List.map_cons,List.map_nil]);first|done|rfl) rfl ?_;(with_reducible refine (GC.out).mono ?_);rintro e w4 ⟨rfl,rfl⟩;refine ⟨_,rfl,?_⟩)|go_in)
       repeat (go_quiet (fail);try go_wp2)
       have HBn:=A0_.mk (giveW_below HB.out HG8.out HGT.out (m:=c.f1.length + c.f2.length + n))
       have HTOn:=A0_.mk (HTO.out.give (by have:=HNS.out;omega))
       go_roundg k1
       case measure => omega
       case rel => exact ⟨n + 1,rfl,⟨by have:=HKN.out;omega⟩,⟨by omega⟩,HBn,HTOn⟩
      ·have cnb : decide ((n : Int) < (c.f8.length : Int)) = false:=decide_eq_false (by omega)
       have hn : c.f1.length + c.f2.length + n = c.f1.length + c.f2.length + c.f8.length:=by have:=HNL2.out;omega
       have HB5:=HB
       have hto:=HTO.out
       rw [hn] at hto
       clear HTO
       have HTO:=A0_.mk hto
       clear hto hn HB HKN HNL2
       have hto:=HTO.out
       rw [← HNS.out] at hto
       clear HTO
       have HTO:=A0_.mk hto
       clear hto
       go_upto_region 24 with (fail)
       have h16 : (wr.alloc (.cells #[.func (.func 40) #[] #[.pointer (some ⟨g7,0,none⟩)]] 82)).heap[wr.heap.size]? = some (.cells #[.func (.func 40) #[] #[.pointer (some ⟨g7,0,none⟩)]] 82 (0,0)):=blk_new wr _
       have hba : Below wr.heap.size wr (wr.alloc (.cells #[.func (.func 40) #[] #[.pointer (some ⟨g7,0,none⟩)]] 82)):=eA_ (Below.refl _ _) _
       have HTO3:=A0_.mk (HTO.out.below hba)
       have HB6:=A0_.mk (HB5.out.trans (lower_ HB5.out.size hba))
       clear hba HTO HB5
       obtain ⟨g16,hg16⟩ : ∃ b,wr.heap.size = b:=⟨_,rfl⟩
       rw [hg16] at h16 ⊢
       clear hg16
       have H16:=A0_.mk h16
       clear h16
       generalize wr.alloc (.cells #[.func (.func 40) #[] #[.pointer (some ⟨g7,0,none⟩)]] 82) = W3 at HTO3 HB6 H16 ⊢
       have HX13:=A0_.mk (HX1b.out.below HB6.out)
       have y0 : W3.cell? ⟨b1,0,none⟩ = some (.int .i64 c.f0):=(HX13.out.cell 0).trans rfl
       have y1 : W3.cell? ⟨b1,1,none⟩ = some (.slice A1 c.f1.length c1):=(HX13.out.cell 1).trans rfl
       have y2 : W3.cell? ⟨b1,2,none⟩ = some (.slice A2 c.f2.length c2):=(HX13.out.cell 2).trans rfl
       have y3 : W3.cell? ⟨b1,3,none⟩ = some (.slice A3 c.f3.length c3):=(HX13.out.cell 3).trans rfl
       have y4 : W3.cell? ⟨b1,4,none⟩ = some (.slice A4 c.f4.length c4):=(HX13.out.cell 4).trans rfl
       have y5 : W3.cell? ⟨b1,5,none⟩ = some (.slice A5 c.f5.length c5):=(HX13.out.cell 5).trans rfl
       have y6 : W3.cell? ⟨b1,6,none⟩ = some (.slice A6 c.f6.length c6):=(HX13.out.cell 6).trans rfl
       have y7 : W3.cell? ⟨b1,7,none⟩ = some (.slice A7 c.f7.length c7):=(HX13.out.cell 7).trans rfl
       have y8 : W3.cell? ⟨b1,8,none⟩ = some (.slice A8 c.f8.length c8):=(HX13.out.cell 8).trans rfl
       have y9 : W3.cell? ⟨b1,9,none⟩ = some (.slice A9 c.f9.length c9):=(HX13.out.cell 9).trans rfl
       have y10 : W3.cell? ⟨b1,10,none⟩ = some (.slice A10 c.f10.length c10):=(HX13.out.cell 10).trans rfl
       have hcp:=copy_calls HC.out (HB1.out.trans (lower_ HB1.out.size HB6.out)) HSH.out HJL.out
       dsimp only [cellsC] at hcp
       have CPC:=A0_.mk hcp
       clear hcp
       go_upto_region 25 with ((with_reducible refine gate_callee (f:=42) rfl ?_);refine goesL_ (some 82) rfl rfl Tryz.func42 (by kernel_rfl) rfl #[.agg #[.int .i64 c.f0,.slice A1 c.f1.length c1,.slice A2 c.f2.length c2,.slice A3 c.f3.length c3,.slice A4 c.f4.length c4,.slice A5 c.f5.length c5,.slice A6 c.f6.length c6,.slice A7 c.f7.length c7,.slice A8 c.f8.length c8,.slice A9 c.f9.length c9,.slice A10 c.f10.length c10]] rfl (by (try simp only [List.map_toArray,List.map_cons,List.map_nil]);first|done|rfl) ?_;(with_reducible refine (CPC.out).mono ?_);rintro e W4 ⟨a2,rfl,hcp,hb⟩;obtain ⟨B1,B2,B3,B4,B5,B6,B7,B8,B9,B10,d1,d2,d3,d4,d5,d6,d7,d8,d9,d10⟩:=a2;(try dsimp only);refine ⟨_,rfl,?_⟩;have HCP:=A0_.mk hcp;have HB7:=A0_.mk hb;clear hcp hb CPC)
       clear y0 y1 y2 y3 y4 y5 y6 y7 y8 y9 y10
       have hgj : ∃ b,W3.heap.size = b:=⟨_,rfl⟩
       obtain ⟨gj,hgj⟩:=hgj
       have hn7 : g7 < gj:=by have:=blk_lt HTO3.out.c7;omega
       have hcp:=HCP.out
       rw [hgj] at hcp
       obtain ⟨raws0,hj0⟩:=hcp.just
       have hlj : W1.heap.size ≤ gj:=by have:=HB6.out.size;omega
       have h34:=HB7.out
       have h45 : Below W4.heap.size W4 (W4.alloc (.cells #[.int .i64 c.f0,.slice B1 c.f1.length d1,.slice B2 c.f2.length d2,.slice B3 c.f3.length d3,.slice B4 c.f4.length d4,.slice B5 c.f5.length d5,.slice B6 c.f6.length d6,.slice B7 c.f7.length d7,.slice B8 c.f8.length d8,.slice B9 c.f9.length d9,.slice B10 c.f10.length d10] 29)):=eA_ (Below.refl _ _) _
       have h35:=h34.trans (lower_ h34.size h45)
       have hR : R2 w W1 (W4.alloc (.cells #[.int .i64 c.f0,.slice B1 c.f1.length d1,.slice B2 c.f2.length d2,.slice B3 c.f3.length d3,.slice B4 c.f4.length d4,.slice B5 c.f5.length d5,.slice B6 c.f6.length d6,.slice B7 c.f7.length d7,.slice B8 c.f8.length d8,.slice B9 c.f9.length d9,.slice B10 c.f10.length d10] 29)) c g7 g8 gT g16 W4.heap.size gj N #[.int .i64 c.f0,.slice B1 c.f1.length d1,.slice B2 c.f2.length d2,.slice B3 c.f3.length d3,.slice B4 c.f4.length d4,.slice B5 c.f5.length d5,.slice B6 c.f6.length d6,.slice B7 c.f7.length d7,.slice B8 c.f8.length d8,.slice B9 c.f9.length d9,.slice B10 c.f10.length d10] [rI (.slice B1 c.f1.length d1) c.f1,rL (.slice B2 c.f2.length d2) c.f2,rI (.slice B3 c.f3.length d3) c.f3,rI (.slice B4 c.f4.length d4) c.f4,rI (.slice B5 c.f5.length d5) c.f5,rI (.slice B7 c.f7.length d7) c.f7,rA (.slice B8 c.f8.length d8) c.f8,rS (.slice B9 c.f9.length d9) c.f9,rT (.slice B10 c.f10.length d10) c.f10] (.slice B6 c.f6.length d6):=⟨HB6.out.trans (lower_ HB6.out.size h35),HTO3.out.below h35,blk_below H16.out h35,blk_new W4 _,(hcp.rows.below h45).lower hlj,⟨raws0,hj0.below h45⟩,hlj,hn7,Nat.le_trans HB6.out.size h34.size,HB1.out.size⟩
       obtain ⟨bO,hbO⟩ : ∃ b,W4.heap.size = b:=⟨_,rfl⟩
       rw [hbO] at hR ⊢
       clear hbO hgj hn7 hcp hj0 hlj h34 h45 h35 HCP HB7 HX13 HTO3 H16 HB6
       have HR:=A0_.mk hR
       clear hR
       generalize W4.alloc (.cells #[.int .i64 c.f0,.slice B1 c.f1.length d1,.slice B2 c.f2.length d2,.slice B3 c.f3.length d3,.slice B4 c.f4.length d4,.slice B5 c.f5.length d5,.slice B6 c.f6.length d6,.slice B7 c.f7.length d7,.slice B8 c.f8.length d8,.slice B9 c.f9.length d9,.slice B10 c.f10.length d10] 29) = W5 at HR ⊢
       have y8 : W5.cell? ⟨g8,0,none⟩ = some (.int .i64 (2 * (N : Int))):=bC_ HR.out.tt.c8 0
       have y0 : W5.cell? ⟨bO,0,none⟩ = some (.int .i64 c.f0):=bC_ HR.out.bo 0
       have z0:=bF_ HR.out.bo 0
       have hdiv : (2 * (N : Int)) / 2 = (N : Int):=by omega
       go_upto_region 26 with (fail)
       have HR6:=A0_.mk (HR.out.put 0 (.int .i64 (N : Int)) (cells':=#[.int .i64 (N : Int),.slice B1 c.f1.length d1,.slice B2 c.f2.length d2,.slice B3 c.f3.length d3,.slice B4 c.f4.length d4,.slice B5 c.f5.length d5,.slice B6 c.f6.length d6,.slice B7 c.f7.length d7,.slice B8 c.f8.length d8,.slice B9 c.f9.length d9,.slice B10 c.f10.length d10]) rfl)
       clear HR y8 y0 z0 hdiv
       generalize W5.setCell ⟨bO,0,none⟩ (.int .i64 (N : Int)) = W6 at HR6 ⊢
       have HRd:=A0_.mk (HR6.out.call (below_drew (Below.refl W6.heap.size W6)))
       clear HR6
       refine wp_normal' ?_
       refine start_ (n:=30) (S:=fun w' => BX w' b1 c ⟨A1,A2,A3,A4,A5,A6,A7,A8,A9,A10,c1,c2,c3,c4,c5,c6,c7,c8,c9,c10⟩) (ds:=[]) (Array.replicate 30 false) (by kernel_rfl) rfl rfl (HX1b.out.below HRd.out.below) (fun hHeld => ?_)
       have HR7:=HRd
       clear HRd
       generalize W6.drew = W7 at HR7 hHeld ⊢
       refine pure_ (i:=0) (N:=some 86) (v:=?_) (a':=?_) (zA_ 30 1) rfl rfl (by kernel_rfl) (fun _ _ _ h => by cases h.1) (Or.inl ⟨by rfl,?_⟩) ?_ ?_
       rotate_left
       ·intro w'
        go_simp
        with_reducible rfl
       rotate_left
       ·simp only [Act.put,sA_,sB_,sC_]
        rfl
       refine pure_ (i:=1) (N:=some 87) (v:=?_) (a':=?_) (zA_ 30 3) rfl rfl (by kernel_rfl) (fun _ _ _ h => by cases h.1) (Or.inl ⟨by rfl,?_⟩) ?_ ?_
       rotate_left
       ·intro w'
        go_simp
        with_reducible rfl
       rotate_left
       ·simp only [Act.put,sA_,sB_,sC_]
        rfl
       refine take_ (i:=2) (N:=some 88) (v:=?_) (a':=?_) (zA_ 30 7) rfl rfl (by kernel_rfl) (fun _ _ _ h => by cases h.1) (Or.inl ⟨by rfl,?_⟩) hHeld ?_ ?_
       rotate_left
       ·intro w' s_
        have y1 : w'.cell? ⟨b1,1,none⟩ = some (.slice A1 c.f1.length c1):=(BX.cell s_ 1).trans rfl
        go_simp
        with_reducible rfl
       rotate_left
       ·simp only [Act.put,sA_,sB_,sC_]
        rfl
       refine pure_ (i:=4) (N:=some 90) (v:=?_) (a':=?_) (zA_ 30 23) rfl rfl (by kernel_rfl) (fun _ _ _ h => by cases h.1) (Or.inl ⟨by rfl,?_⟩) ?_ ?_
       rotate_left
       ·intro w'
        go_simp
        with_reducible rfl
       rotate_left
       ·simp only [Act.put,sA_,sB_,sC_]
        rfl
       refine pure_ (i:=5) (N:=some 91) (v:=?_) (a':=?_) (zA_ 30 55) rfl rfl (by kernel_rfl) (fun _ _ _ h => by cases h.1) (Or.inl ⟨by rfl,?_⟩) ?_ ?_
       rotate_left
       ·intro w'
        go_simp
        with_reducible rfl
       rotate_left
       ·simp only [Act.put,sA_,sB_,sC_]
        rfl
       refine take_ (i:=6) (N:=some 92) (v:=?_) (a':=?_) (zA_ 30 119) rfl rfl (by kernel_rfl) (fun _ _ _ h => by cases h.1) (Or.inl ⟨by rfl,?_⟩) hHeld ?_ ?_
       rotate_left
       ·intro w' s_
        have y3 : w'.cell? ⟨b1,3,none⟩ = some (.slice A3 c.f3.length c3):=(BX.cell s_ 3).trans rfl
        go_simp
        with_reducible rfl
       rotate_left
       ·simp only [Act.put,sA_,sB_,sC_]
        rfl
       refine pure_ (i:=8) (N:=some 94) (v:=?_) (a':=?_) (zA_ 30 375) rfl rfl (by kernel_rfl) (fun _ _ _ h => by cases h.1) (Or.inl ⟨by rfl,?_⟩) ?_ ?_
       rotate_left
       ·intro w'
        go_simp
        with_reducible rfl
       rotate_left
       ·simp only [Act.put,sA_,sB_,sC_]
        rfl
       refine pure_ (i:=9) (N:=some 95) (v:=?_) (a':=?_) (zA_ 30 887) rfl rfl (by kernel_rfl) (fun _ _ _ h => by cases h.1) (Or.inl ⟨by rfl,?_⟩) ?_ ?_
       rotate_left
       ·intro w'
        go_simp
        with_reducible rfl
       rotate_left
       ·simp only [Act.put,sA_,sB_,sC_]
        rfl
       refine take_ (i:=10) (N:=some 96) (v:=?_) (a':=?_) (zA_ 30 1911) rfl rfl (by kernel_rfl) (fun _ _ _ h => by cases h.1) (Or.inl ⟨by rfl,?_⟩) hHeld ?_ ?_
       rotate_left
       ·intro w' s_
        have y4 : w'.cell? ⟨b1,4,none⟩ = some (.slice A4 c.f4.length c4):=(BX.cell s_ 4).trans rfl
        go_simp
        with_reducible rfl
       rotate_left
       ·simp only [Act.put,sA_,sB_,sC_]
        rfl
       refine pure_ (i:=12) (N:=some 98) (v:=?_) (a':=?_) (zA_ 30 6007) rfl rfl (by kernel_rfl) (fun _ _ _ h => by cases h.1) (Or.inl ⟨by rfl,?_⟩) ?_ ?_
       rotate_left
       ·intro w'
        go_simp
        with_reducible rfl
       rotate_left
       ·simp only [Act.put,sA_,sB_,sC_]
        rfl
       refine pure_ (i:=13) (N:=some 99) (v:=?_) (a':=?_) (zA_ 30 14199) rfl rfl (by kernel_rfl) (fun _ _ _ h => by cases h.1) (Or.inl ⟨by rfl,?_⟩) ?_ ?_
       rotate_left
       ·intro w'
        go_simp
        with_reducible rfl
       rotate_left
       ·simp only [Act.put,sA_,sB_,sC_]
        rfl
       refine take_ (i:=14) (N:=some 100) (v:=?_) (a':=?_) (zA_ 30 30583) rfl rfl (by kernel_rfl) (fun _ _ _ h => by cases h.1) (Or.inl ⟨by rfl,?_⟩) hHeld ?_ ?_
       rotate_left
       ·intro w' s_
        have y5 : w'.cell? ⟨b1,5,none⟩ = some (.slice A5 c.f5.length c5):=(BX.cell s_ 5).trans rfl
        go_simp
        with_reducible rfl
       rotate_left
       ·simp only [Act.put,sA_,sB_,sC_]
        rfl
       refine pure_ (i:=16) (N:=some 102) (v:=?_) (a':=?_) (zA_ 30 96119) rfl rfl (by kernel_rfl) (fun _ _ _ h => by cases h.1) (Or.inl ⟨by rfl,?_⟩) ?_ ?_
       rotate_left
       ·intro w'
        go_simp
        with_reducible rfl
       rotate_left
       ·simp only [Act.put,sA_,sB_,sC_]
        rfl
       refine pure_ (i:=17) (N:=some 103) (v:=?_) (a':=?_) (zA_ 30 227191) rfl rfl (by kernel_rfl) (fun _ _ _ h => by cases h.1) (Or.inl ⟨by rfl,?_⟩) ?_ ?_
       rotate_left
       ·intro w'
        go_simp
        with_reducible rfl
       rotate_left
       ·simp only [Act.put,sA_,sB_,sC_]
        rfl
       refine take_ (i:=18) (N:=some 104) (v:=?_) (a':=?_) (zA_ 30 489335) rfl rfl (by kernel_rfl) (fun _ _ _ h => by cases h.1) (Or.inl ⟨by rfl,?_⟩) hHeld ?_ ?_
       rotate_left
       ·intro w' s_
        have y7 : w'.cell? ⟨b1,7,none⟩ = some (.slice A7 c.f7.length c7):=(BX.cell s_ 7).trans rfl
        go_simp
        with_reducible rfl
       rotate_left
       ·simp only [Act.put,sA_,sB_,sC_]
        rfl
       refine one_ (i:=3) (N:=some 89) (zA_ 30 489343) rfl rfl (by kernel_rfl) (by decide) (fun K hK => ?_)
       refine goesV_ (t:=86) Tryz.func41 (by kernel_rfl) rfl #[.slice A1 c.f1.length c1] #[.pointer (some ⟨g16,0,none⟩)] #[.slice A1 c.f1.length c1,.pointer (some ⟨g16,0,none⟩)] (by rfl) rfl rfl rfl (by (try simp only [List.map_toArray,List.map_cons,List.map_nil]);first|done|rfl) rfl ?_
       refine (lits_calls (cp:=c1) HR7.out.tt HR7.out.h16 HNL.out (Kd.C_below (Kd.C_below HC.out.r1 HB1.out) HR7.out.below) (fun x hx => by have h1:=HBIN.out.u1 x hx;have h2:=HN.out;omega) (by have:=HSH.out.l1;omega)).mono ?_
       rintro e W8 ⟨rfl,hq,hb⟩
       have hR:=(HR7.out.call hb).row (r:=rI (.slice (some ⟨W7.heap.size,0,none⟩) c.f1.length c.f1.length) c.f1) (OwnI.fresh hq HR7.out.below.size (by have:=HSH.out.l1;omega))
       obtain ⟨q1,hq1⟩ : ∃ b,W7.heap.size = b:=⟨_,rfl⟩
       rw [hq1] at hR ⊢
       have HR8:=A0_.mk hR
       clear hR hq hb hq1 HR7
       refine ⟨_,rfl,hK.out _ _ (HX1b.out.below HR8.out.below) (fun hHeld2 => ?_)⟩
       clear hK K hHeld
       have hHeld:=hHeld2
       clear hHeld2
       refine norm_ (a':=?_) ?_ ?_
       rotate_left
       ·show Act.put _ (some 89) _ = _
        simp only [Act.put,sA_,sB_,sC_]
        rfl
       refine pure_ (i:=20) (N:=some 106) (v:=?_) (a':=?_) (zA_ 30 1537919) rfl rfl (by kernel_rfl) (fun _ _ _ h => by cases h.1) (Or.inl ⟨by rfl,?_⟩) ?_ ?_
       rotate_left
       ·intro w'
        go_simp
        with_reducible rfl
       rotate_left
       ·simp only [Act.put,sA_,sB_,sC_]
        rfl
       refine one_ (i:=7) (N:=some 93) (zA_ 30 1538047) rfl rfl (by kernel_rfl) (by decide) (fun K hK => ?_)
       refine goesV_ (t:=90) Tryz.func41 (by kernel_rfl) rfl #[.slice A3 c.f3.length c3] #[.pointer (some ⟨g16,0,none⟩)] #[.slice A3 c.f3.length c3,.pointer (some ⟨g16,0,none⟩)] (by rfl) rfl rfl rfl (by (try simp only [List.map_toArray,List.map_cons,List.map_nil]);first|done|rfl) rfl ?_
       refine (lits_calls (cp:=c3) HR8.out.tt HR8.out.h16 HNL.out (Kd.C_below (Kd.C_below HC.out.r3 HB1.out) HR8.out.below) (fun x hx => by have h1:=HBIN.out.u3 x hx;have h2:=HN.out;omega) (by have:=HSH.out.l3;omega)).mono ?_
       rintro e W9 ⟨rfl,hq,hb⟩
       have hR:=(HR8.out.call hb).row (r:=rI (.slice (some ⟨W8.heap.size,0,none⟩) c.f3.length c.f3.length) c.f3) (OwnI.fresh hq HR8.out.below.size (by have:=HSH.out.l3;omega))
       obtain ⟨q3,hq3⟩ : ∃ b,W8.heap.size = b:=⟨_,rfl⟩
       rw [hq3] at hR ⊢
       have HR9:=A0_.mk hR
       clear hR hq hb hq3 HR8
       refine ⟨_,rfl,hK.out _ _ (HX1b.out.below HR9.out.below) (fun hHeld2 => ?_)⟩
       clear hK K hHeld
       have hHeld:=hHeld2
       clear hHeld2
       refine norm_ (a':=?_) ?_ ?_
       rotate_left
       ·show Act.put _ (some 93) _ = _
        simp only [Act.put,sA_,sB_,sC_]
        rfl
       refine one_ (i:=11) (N:=some 97) (zA_ 30 1540095) rfl rfl (by kernel_rfl) (by decide) (fun K hK => ?_)
       refine goesV_ (t:=94) Tryz.func41 (by kernel_rfl) rfl #[.slice A4 c.f4.length c4] #[.pointer (some ⟨g16,0,none⟩)] #[.slice A4 c.f4.length c4,.pointer (some ⟨g16,0,none⟩)] (by rfl) rfl rfl rfl (by (try simp only [List.map_toArray,List.map_cons,List.map_nil]);first|done|rfl) rfl ?_
       refine (lits_calls (cp:=c4) HR9.out.tt HR9.out.h16 HNL.out (Kd.C_below (Kd.C_below HC.out.r4 HB1.out) HR9.out.below) (fun x hx => by have h1:=HBIN.out.u4 x hx;have h2:=HN.out;omega) (by have:=HSH.out.l4;omega)).mono ?_
       rintro e W10 ⟨rfl,hq,hb⟩
       have hR:=(HR9.out.call hb).row (r:=rI (.slice (some ⟨W9.heap.size,0,none⟩) c.f4.length c.f4.length) c.f4) (OwnI.fresh hq HR9.out.below.size (by have:=HSH.out.l4;omega))
       obtain ⟨q4,hq4⟩ : ∃ b,W9.heap.size = b:=⟨_,rfl⟩
       rw [hq4] at hR ⊢
       have HR10:=A0_.mk hR
       clear hR hq hb hq4 HR9
       refine ⟨_,rfl,hK.out _ _ (HX1b.out.below HR10.out.below) (fun hHeld2 => ?_)⟩
       clear hK K hHeld
       have hHeld:=hHeld2
       clear hHeld2
       refine norm_ (a':=?_) ?_ ?_
       rotate_left
       ·show Act.put _ (some 97) _ = _
        simp only [Act.put,sA_,sB_,sC_]
        rfl
       refine one_ (i:=15) (N:=some 101) (zA_ 30 1572863) rfl rfl (by kernel_rfl) (by decide) (fun K hK => ?_)
       refine goesV_ (t:=98) Tryz.func41 (by kernel_rfl) rfl #[.slice A5 c.f5.length c5] #[.pointer (some ⟨g16,0,none⟩)] #[.slice A5 c.f5.length c5,.pointer (some ⟨g16,0,none⟩)] (by rfl) rfl rfl rfl (by (try simp only [List.map_toArray,List.map_cons,List.map_nil]);first|done|rfl) rfl ?_
       refine (lits_calls (cp:=c5) HR10.out.tt HR10.out.h16 HNL.out (Kd.C_below (Kd.C_below HC.out.r5 HB1.out) HR10.out.below) (fun x hx => by have h1:=HBIN.out.u5 x hx;have h2:=HN.out;omega) (by have:=HSH.out.l5;omega)).mono ?_
       rintro e W11 ⟨rfl,hq,hb⟩
       have hR:=(HR10.out.call hb).row (r:=rI (.slice (some ⟨W10.heap.size,0,none⟩) c.f5.length c.f5.length) c.f5) (OwnI.fresh hq HR10.out.below.size (by have:=HSH.out.l5;omega))
       obtain ⟨q5,hq5⟩ : ∃ b,W10.heap.size = b:=⟨_,rfl⟩
       rw [hq5] at hR ⊢
       have HR11:=A0_.mk hR
       clear hR hq hb hq5 HR10
       refine ⟨_,rfl,hK.out _ _ (HX1b.out.below HR11.out.below) (fun hHeld2 => ?_)⟩
       clear hK K hHeld
       have hHeld:=hHeld2
       clear hHeld2
       refine norm_ (a':=?_) ?_ ?_
       rotate_left
       ·show Act.put _ (some 101) _ = _
        simp only [Act.put,sA_,sB_,sC_]
        rfl
       refine one_ (i:=19) (N:=some 105) (zA_ 30 2097151) rfl rfl (by kernel_rfl) (by decide) (fun K hK => ?_)
       refine goesV_ (t:=102) Tryz.func41 (by kernel_rfl) rfl #[.slice A7 c.f7.length c7] #[.pointer (some ⟨g16,0,none⟩)] #[.slice A7 c.f7.length c7,.pointer (some ⟨g16,0,none⟩)] (by rfl) rfl rfl rfl (by (try simp only [List.map_toArray,List.map_cons,List.map_nil]);first|done|rfl) rfl ?_
       refine (lits_calls (cp:=c7) HR11.out.tt HR11.out.h16 HNL.out (Kd.C_below (Kd.C_below HC.out.r7 HB1.out) HR11.out.below) (fun x hx => by have h1:=HBIN.out.u7 x hx;have h2:=HN.out;omega) (by have:=HSH.out.l7;omega)).mono ?_
       rintro e W12 ⟨rfl,hq,hb⟩
       have hR:=(HR11.out.call hb).row (r:=rI (.slice (some ⟨W11.heap.size,0,none⟩) c.f7.length c.f7.length) c.f7) (OwnI.fresh hq HR11.out.below.size (by have:=HSH.out.l7;omega))
       obtain ⟨q7,hq7⟩ : ∃ b,W11.heap.size = b:=⟨_,rfl⟩
       rw [hq7] at hR ⊢
       have HR12:=A0_.mk hR
       clear hR hq hb hq7 HR11
       refine ⟨_,rfl,hK.out _ _ (HX1b.out.below HR12.out.below) (fun hHeld2 => ?_)⟩
       clear hK K hHeld
       have hHeld:=hHeld2
       clear hHeld2
       refine norm_ (a':=?_) ?_ ?_
       rotate_left
       ·show Act.put _ (some 105) _ = _
        simp only [Act.put,sA_,sB_,sC_]
        rfl
       have e3 : W12.cell? ⟨bO,1,none⟩ = some (.slice B1 c.f1.length d1):=bC_ HR12.out.bo 1
       have z3:=bF_ HR12.out.bo 1
       refine one_ (i:=21) (N:=none) (zA_ 30 4194303) rfl rfl (by kernel_rfl) (by decide) (fun K hK => ?_)
       refine skip_ (w1:=W12.setCell ⟨bO,1,none⟩ (.slice (some ⟨q1,0,none⟩) c.f1.length c.f1.length)) rfl rfl ?_ ?_
       ·go_simp
       have HR13:=A0_.mk (HR12.out.put 1 (.slice (some ⟨q1,0,none⟩) c.f1.length c.f1.length) (cells':=#[.int .i64 (N : Int),.slice (some ⟨q1,0,none⟩) c.f1.length c.f1.length,.slice B2 c.f2.length d2,.slice B3 c.f3.length d3,.slice B4 c.f4.length d4,.slice B5 c.f5.length d5,.slice B6 c.f6.length d6,.slice B7 c.f7.length d7,.slice B8 c.f8.length d8,.slice B9 c.f9.length d9,.slice B10 c.f10.length d10]) rfl)
       clear HR12 e3 z3
       refine hK.out _ _ (HX1b.out.below HR13.out.below) (fun hHeld2 => ?_)
       clear hK K hHeld
       have hHeld:=hHeld2
       clear hHeld2
       generalize W12.setCell ⟨bO,1,none⟩ (.slice (some ⟨q1,0,none⟩) c.f1.length c.f1.length) = W13 at HR13 hHeld ⊢
       refine pure_ (i:=22) (N:=some 107) (v:=?_) (a':=?_) (zA_ 30 8388607) rfl rfl (by kernel_rfl) (fun _ _ _ h => by cases h.1) (Or.inl ⟨by rfl,?_⟩) ?_ ?_
       rotate_left
       ·intro w'
        go_simp
        with_reducible rfl
       rotate_left
       ·simp only [Act.put,sA_,sB_,sC_]
        rfl
       have e3 : W13.cell? ⟨bO,3,none⟩ = some (.slice B3 c.f3.length d3):=bC_ HR13.out.bo 3
       have z3:=bF_ HR13.out.bo 3
       refine one_ (i:=23) (N:=none) (zA_ 30 16777215) rfl rfl (by kernel_rfl) (by decide) (fun K hK => ?_)
       refine skip_ (w1:=W13.setCell ⟨bO,3,none⟩ (.slice (some ⟨q3,0,none⟩) c.f3.length c.f3.length)) rfl rfl ?_ ?_
       ·go_simp
       have HR14:=A0_.mk (HR13.out.put 3 (.slice (some ⟨q3,0,none⟩) c.f3.length c.f3.length) (cells':=#[.int .i64 (N : Int),.slice (some ⟨q1,0,none⟩) c.f1.length c.f1.length,.slice B2 c.f2.length d2,.slice (some ⟨q3,0,none⟩) c.f3.length c.f3.length,.slice B4 c.f4.length d4,.slice B5 c.f5.length d5,.slice B6 c.f6.length d6,.slice B7 c.f7.length d7,.slice B8 c.f8.length d8,.slice B9 c.f9.length d9,.slice B10 c.f10.length d10]) rfl)
       clear HR13 e3 z3
       refine hK.out _ _ (HX1b.out.below HR14.out.below) (fun hHeld2 => ?_)
       clear hK K hHeld
       have hHeld:=hHeld2
       clear hHeld2
       generalize W13.setCell ⟨bO,3,none⟩ (.slice (some ⟨q3,0,none⟩) c.f3.length c.f3.length) = W14 at HR14 hHeld ⊢
       refine pure_ (i:=24) (N:=some 108) (v:=?_) (a':=?_) (zA_ 30 33554431) rfl rfl (by kernel_rfl) (fun _ _ _ h => by cases h.1) (Or.inl ⟨by rfl,?_⟩) ?_ ?_
       rotate_left
       ·intro w'
        go_simp
        with_reducible rfl
       rotate_left
       ·simp only [Act.put,sA_,sB_,sC_]
        rfl
       have e3 : W14.cell? ⟨bO,4,none⟩ = some (.slice B4 c.f4.length d4):=bC_ HR14.out.bo 4
       have z3:=bF_ HR14.out.bo 4
       refine one_ (i:=25) (N:=none) (zA_ 30 67108863) rfl rfl (by kernel_rfl) (by decide) (fun K hK => ?_)
       refine skip_ (w1:=W14.setCell ⟨bO,4,none⟩ (.slice (some ⟨q4,0,none⟩) c.f4.length c.f4.length)) rfl rfl ?_ ?_
       ·go_simp
       have HR15:=A0_.mk (HR14.out.put 4 (.slice (some ⟨q4,0,none⟩) c.f4.length c.f4.length) (cells':=#[.int .i64 (N : Int),.slice (some ⟨q1,0,none⟩) c.f1.length c.f1.length,.slice B2 c.f2.length d2,.slice (some ⟨q3,0,none⟩) c.f3.length c.f3.length,.slice (some ⟨q4,0,none⟩) c.f4.length c.f4.length,.slice B5 c.f5.length d5,.slice B6 c.f6.length d6,.slice B7 c.f7.length d7,.slice B8 c.f8.length d8,.slice B9 c.f9.length d9,.slice B10 c.f10.length d10]) rfl)
       clear HR14 e3 z3
       refine hK.out _ _ (HX1b.out.below HR15.out.below) (fun hHeld2 => ?_)
       clear hK K hHeld
       have hHeld:=hHeld2
       clear hHeld2
       generalize W14.setCell ⟨bO,4,none⟩ (.slice (some ⟨q4,0,none⟩) c.f4.length c.f4.length) = W15 at HR15 hHeld ⊢
       refine pure_ (i:=26) (N:=some 109) (v:=?_) (a':=?_) (zA_ 30 134217727) rfl rfl (by kernel_rfl) (fun _ _ _ h => by cases h.1) (Or.inl ⟨by rfl,?_⟩) ?_ ?_
       rotate_left
       ·intro w'
        go_simp
        with_reducible rfl
       rotate_left
       ·simp only [Act.put,sA_,sB_,sC_]
        rfl
       have e3 : W15.cell? ⟨bO,5,none⟩ = some (.slice B5 c.f5.length d5):=bC_ HR15.out.bo 5
       have z3:=bF_ HR15.out.bo 5
       refine one_ (i:=27) (N:=none) (zA_ 30 268435455) rfl rfl (by kernel_rfl) (by decide) (fun K hK => ?_)
       refine skip_ (w1:=W15.setCell ⟨bO,5,none⟩ (.slice (some ⟨q5,0,none⟩) c.f5.length c.f5.length)) rfl rfl ?_ ?_
       ·go_simp
       have HR16:=A0_.mk (HR15.out.put 5 (.slice (some ⟨q5,0,none⟩) c.f5.length c.f5.length) (cells':=#[.int .i64 (N : Int),.slice (some ⟨q1,0,none⟩) c.f1.length c.f1.length,.slice B2 c.f2.length d2,.slice (some ⟨q3,0,none⟩) c.f3.length c.f3.length,.slice (some ⟨q4,0,none⟩) c.f4.length c.f4.length,.slice (some ⟨q5,0,none⟩) c.f5.length c.f5.length,.slice B6 c.f6.length d6,.slice B7 c.f7.length d7,.slice B8 c.f8.length d8,.slice B9 c.f9.length d9,.slice B10 c.f10.length d10]) rfl)
       clear HR15 e3 z3
       refine hK.out _ _ (HX1b.out.below HR16.out.below) (fun hHeld2 => ?_)
       clear hK K hHeld
       have hHeld:=hHeld2
       clear hHeld2
       generalize W15.setCell ⟨bO,5,none⟩ (.slice (some ⟨q5,0,none⟩) c.f5.length c.f5.length) = W16 at HR16 hHeld ⊢
       refine pure_ (i:=28) (N:=some 110) (v:=?_) (a':=?_) (zA_ 30 536870911) rfl rfl (by kernel_rfl) (fun _ _ _ h => by cases h.1) (Or.inl ⟨by rfl,?_⟩) ?_ ?_
       rotate_left
       ·intro w'
        go_simp
        with_reducible rfl
       rotate_left
       ·simp only [Act.put,sA_,sB_,sC_]
        rfl
       have e3 : W16.cell? ⟨bO,7,none⟩ = some (.slice B7 c.f7.length d7):=bC_ HR16.out.bo 7
       have z3:=bF_ HR16.out.bo 7
       refine one_ (i:=29) (N:=none) (zA_ 30 1073741823) rfl rfl (by kernel_rfl) (by decide) (fun K hK => ?_)
       refine skip_ (w1:=W16.setCell ⟨bO,7,none⟩ (.slice (some ⟨q7,0,none⟩) c.f7.length c.f7.length)) rfl rfl ?_ ?_
       ·go_simp
       have HR17:=A0_.mk (HR16.out.put 7 (.slice (some ⟨q7,0,none⟩) c.f7.length c.f7.length) (cells':=#[.int .i64 (N : Int),.slice (some ⟨q1,0,none⟩) c.f1.length c.f1.length,.slice B2 c.f2.length d2,.slice (some ⟨q3,0,none⟩) c.f3.length c.f3.length,.slice (some ⟨q4,0,none⟩) c.f4.length c.f4.length,.slice (some ⟨q5,0,none⟩) c.f5.length c.f5.length,.slice B6 c.f6.length d6,.slice (some ⟨q7,0,none⟩) c.f7.length c.f7.length,.slice B8 c.f8.length d8,.slice B9 c.f9.length d9,.slice B10 c.f10.length d10]) rfl)
       clear HR16 e3 z3
       refine hK.out _ _ (HX1b.out.below HR17.out.below) (fun hHeld2 => ?_)
       clear hK K hHeld
       have hHeld:=hHeld2
       clear hHeld2
       generalize W16.setCell ⟨bO,7,none⟩ (.slice (some ⟨q7,0,none⟩) c.f7.length c.f7.length) = W17 at HR17 hHeld ⊢
       clear hHeld
       refine done_ (by kernel_rfl) ?_
       refine ⟨rfl,?_⟩
       rename_i hKK
       refine hKK _ _ ?_
       clear hKK
       have y6 : W17.cell? ⟨b1,6,none⟩ = some (.slice A6 c.f6.length c6):=(bC_ (blk_below HX1b.out HR17.out.below) 6).trans rfl
       go_wp2
       repeat (go_quiet (fail);try go_wp2)
       (try simp only [Act.put,sA_,sB_,sC_])
       go_loopg [114] (c.f6.length + 1) (fun kq v114 w' => ∃ (n : Nat),v114 = .int .i64 n ∧ A0_ (n + kq = c.f6.length + 1) ∧ A0_ (n ≤ c.f6.length) ∧ A0_ (R2 w W1 w' c g7 g8 gT g16 bO gj N #[.int .i64 (N : Int),.slice (some ⟨q1,0,none⟩) c.f1.length c.f1.length,.slice B2 c.f2.length d2,.slice (some ⟨q3,0,none⟩) c.f3.length c.f3.length,.slice (some ⟨q4,0,none⟩) c.f4.length c.f4.length,.slice (some ⟨q5,0,none⟩) c.f5.length c.f5.length,.slice B6 c.f6.length d6,.slice (some ⟨q7,0,none⟩) c.f7.length c.f7.length,.slice B8 c.f8.length d8,.slice B9 c.f9.length d9,.slice B10 c.f10.length d10] [rI (.slice (some ⟨q7,0,none⟩) c.f7.length c.f7.length) c.f7,rI (.slice (some ⟨q5,0,none⟩) c.f5.length c.f5.length) c.f5,rI (.slice (some ⟨q4,0,none⟩) c.f4.length c.f4.length) c.f4,rI (.slice (some ⟨q3,0,none⟩) c.f3.length c.f3.length) c.f3,rI (.slice (some ⟨q1,0,none⟩) c.f1.length c.f1.length) c.f1,rI (.slice B1 c.f1.length d1) c.f1,rL (.slice B2 c.f2.length d2) c.f2,rI (.slice B3 c.f3.length d3) c.f3,rI (.slice B4 c.f4.length d4) c.f4,rI (.slice B5 c.f5.length d5) c.f5,rI (.slice B7 c.f7.length d7) c.f7,rA (.slice B8 c.f8.length d8) c.f8,rS (.slice B9 c.f9.length d9) c.f9,rT (.slice B10 c.f10.length d10) c.f10] (.slice B6 c.f6.length d6)))
       case atStart => exact ⟨0,rfl,⟨by omega⟩,⟨Nat.zero_le _⟩,HR17⟩
       case round =>
        clear HR17
        obtain ⟨n,rfl,HKN,HNL2,HR⟩:=hrel
        by_cases cn : n < c.f6.length
        ·obtain ⟨k1,rfl⟩ : ∃ k1,gk = k1 + 1:=by
          cases gk with
          |zero => have:=HKN.out;omega
          |succ k1 => exact ⟨k1,rfl⟩
         have cnb : decide ((n : Int) < (c.f6.length : Int)) = true:=decide_eq_true (by omega)
         have p0 : (0 ≤ (n : Int)) = True:=eq_true (by omega)
         have p1 : ((n : Int) < (c.f6.length : Int)) = True:=eq_true (by omega)
         have hw1 : IntKind.i64.wrap ((n : Int) + 1) = ((n + 1 : Nat) : Int):=by have:=HSH.out.l2;have:=HSH.out.l6;have:=HSH.out.l8;rw [IntKind.wrap_i64];omega
         obtain ⟨ad,A1r,q1r,ea,hc,hrow⟩:=row_get (Kd.C_below (Kd.C_below HC.out.r6 HB1.out) HR.out.below) n cn
         have ea : A6 = some ad:=ea
         subst ea
         have hux:=HBIN.out.u6 c.f6[n] (List.getElem_mem _)
         have hxl:=HJL.out c.f6[n] (List.getElem_mem _)
         have HX6 : A0_ (c.f6[n]? = some c.f6[n]):=⟨List.getElem?_eq_getElem cn⟩
         obtain ⟨raws1,hj1⟩:=HR.out.just
         obtain ⟨g6,cap6,hv6,hg6,hlt6⟩:=hj1.form (by omega)
         injection hv6 with e1 e2 e3
         subst e1 e3
         clear hj1 raws1 hg6 e2
         have HG6 : A0_ (g6 < wr.heap.size):=⟨hlt6⟩
         clear hlt6
         generalize c.f6[n] = x at hc hrow hux hxl HX6
         have HROW:=A0_.mk hrow
         have HUX:=A0_.mk hux
         have HXL:=A0_.mk hxl
         clear hrow hux hxl
         go_upto_region 30 with (fail)
         clear hc
         refine wp_normal' ?_
         refine start_ (n:=8) (S:=fun w' => w'.cell? ⟨bO,6,none⟩ = some (.slice (some ⟨g6,0,none⟩) c.f6.length d6)) (ds:=[7]) (Array.replicate 8 false) (by kernel_rfl) rfl rfl (bC_ (bD_ HR.out.bo) 6) (fun hHeld => ?_)
         have hd:=below_drew (Below.refl wr.heap.size wr)
         have HRa:=A0_.mk (HR.out.call hd)
         have HROWa:=A0_.mk (HROW.out.below hd)
         have HGa : A0_ (g6 < wr.drew.heap.size):=HG6
         clear hd HR HROW HG6
         generalize wr.drew = Wa at HRa HROWa HGa hHeld ⊢
         refine pure_ (i:=0) (N:=some 119) (v:=?_) (a':=?_) (zA_ 8 1) rfl rfl (by kernel_rfl) (fun _ _ _ h => by cases h.1) (Or.inl ⟨by rfl,?_⟩) ?_ ?_
         rotate_left
         ·intro w'
          go_simp
          with_reducible rfl
         rotate_left
         ·simp only [Act.put,sA_,sB_,sC_]
          rfl
         refine take_ (i:=1) (N:=some 120) (v:=?_) (a':=?_) (zA_ 8 3) rfl rfl (by kernel_rfl) (fun _ _ _ h => by cases h.1) (Or.inl ⟨by rfl,?_⟩) hHeld ?_ ?_
         rotate_left
         ·intro w' s_
          have y6:=s_
          go_simp
          with_reducible rfl
         rotate_left
         ·simp only [Act.put,sA_,sB_,sC_]
          rfl
         refine pure_ (i:=2) (N:=some 121) (v:=?_) (a':=?_) (zA_ 8 7) rfl rfl (by kernel_rfl) (fun _ _ _ h => by cases h.1) (Or.inl ⟨by rfl,?_⟩) ?_ ?_
         rotate_left
         ·intro w'
          go_simp
          with_reducible rfl
         rotate_left
         ·simp only [Act.put,sA_,sB_,sC_]
          rfl
         refine pure_ (i:=3) (N:=some 122) (v:=?_) (a':=?_) (zA_ 8 15) rfl rfl (by kernel_rfl) (fun _ _ _ h => by cases h.1) (Or.inl ⟨by rfl,?_⟩) ?_ ?_
         rotate_left
         ·intro w'
          go_simp
          with_reducible rfl
         rotate_left
         ·simp only [Act.put,sA_,sB_,sC_]
          rfl
         refine pure_ (i:=4) (N:=some 123) (v:=?_) (a':=?_) (zA_ 8 31) rfl rfl (by kernel_rfl) (fun _ _ _ h => by cases h.1) (Or.inl ⟨by rfl,?_⟩) ?_ ?_
         rotate_left
         ·intro w'
          go_simp
          with_reducible rfl
         rotate_left
         ·simp only [Act.put,sA_,sB_,sC_]
          rfl
         refine one_ (i:=5) (N:=some 124) (zA_ 8 63) rfl rfl (by kernel_rfl) (by decide) (fun K hK => ?_)
         refine goesV_ (t:=122) Tryz.func41 (by kernel_rfl) rfl #[.slice A1r x.length q1r] #[.pointer (some ⟨g16,0,none⟩)] #[.slice A1r x.length q1r,.pointer (some ⟨g16,0,none⟩)] (by rfl) rfl rfl rfl (by (try simp only [List.map_toArray,List.map_cons,List.map_nil]);first|done|rfl) rfl ?_
         refine (lits_calls (cp:=q1r) HRa.out.tt HRa.out.h16 HNL.out HROWa.out.rd (fun y hy => by have h1:=HUX.out y hy;have h2:=HN.out;omega) (by have:=HXL.out;omega)).mono ?_
         rintro e Wb ⟨rfl,hq,hb⟩
         have HRb:=A0_.mk (HRa.out.call hb)
         have HROWb : A0_ (RawAt Wb x (some ⟨Wa.heap.size,0,none⟩,x.length,x.length)):=⟨⟨rfl,Nat.le_refl _,(Kd.R_reads' (OwnI.fresh hq (Nat.zero_le _) (by have:=HXL.out;omega))).2.2⟩⟩
         have HNE : A0_ (∀ ad : Addr,some (⟨Wa.heap.size,0,none⟩ : Addr) = some ad → 0 < x.length → ad.block ≠ g6 ∧ FT Wb w.heap.size ad.block):=⟨fun ad e hn => by injection e with e;subst e;exact ⟨by have:=HGa.out;show Wa.heap.size ≠ g6;omega,.inr ⟨_,hq⟩⟩⟩
         obtain ⟨qn,hqn⟩ : ∃ b,Wa.heap.size = b:=⟨_,rfl⟩
         rw [hqn] at HROWb HNE ⊢
         clear hq hb hqn HRa HROWa HGa
         refine ⟨_,rfl,hK.out _ _ (bC_ HRb.out.bo 6) (fun hHeld2 => ?_)⟩
         clear hK K hHeld
         have hHeld:=hHeld2
         clear hHeld2
         refine norm_ (a':=?_) ?_ ?_
         rotate_left
         ·show Act.put _ (some 124) _ = _
          simp only [Act.put,sA_,sB_,sC_]
          rfl
         refine pure_ (i:=6) (N:=some 125) (v:=?_) (a':=?_) (zA_ 8 127) rfl rfl (by kernel_rfl) (fun _ _ _ h => by cases h.1) (Or.inl ⟨by rfl,?_⟩) ?_ ?_
         rotate_left
         ·intro w'
          go_simp
          with_reducible rfl
         rotate_left
         ·simp only [Act.put,sA_,sB_,sC_]
          rfl
         obtain ⟨raws2,hj2⟩:=HRb.out.just
         obtain ⟨⟨u6,hu6⟩,hz6⟩:=hj2.cell cn rfl
         refine last_ (i:=7) (N:=none) (zA_ 8 255) rfl rfl (by kernel_rfl) (by decide) (fun K hK => ?_)
         refine skip_ (w1:=Wb.setCell ⟨g6,n,none⟩ (.slice (some ⟨qn,0,none⟩) x.length x.length)) rfl rfl ?_ ?_
         ·go_simp
         have HRn:=A0_.mk (HRb.out.put22 HX6.out HROWb.out HNE.out)
         dsimp only at HRn
         clear hu6 hz6 hj2 HRb HROWb
         refine hK.out _ _ ?_
         clear hK K
         generalize Wb.setCell ⟨g6,n,none⟩ (.slice (some ⟨qn,0,none⟩) x.length x.length) = Wc at HRn ⊢
         clear hHeld
         refine done_ (by kernel_rfl) ?_
         refine ⟨rfl,?_⟩
         rename_i hKK
         refine hKK _ _ ?_
         clear hKK
         go_wp2
         repeat (go_quiet (fail);try go_wp2)
         go_roundg k1
         case measure => omega
         case rel => exact ⟨n + 1,rfl,⟨by have:=HKN.out;omega⟩,⟨by omega⟩,HRn⟩
        ·have cnb : decide ((n : Int) < (c.f6.length : Int)) = false:=decide_eq_false (by omega)
         have HRx:=HR
         clear HR HKN HNL2
         have HR:=HRx
         clear HRx
         have y2 : wr.cell? ⟨b1,2,none⟩ = some (.slice A2 c.f2.length c2):=(bC_ (blk_below HX1b.out HR.out.below) 2).trans rfl
         go_wp2
         repeat (go_quiet (fail);try go_wp2)
         (try simp only [Act.put,sA_,sB_,sC_])
         go_loopg [130] (c.f2.length + 1) (fun kq v130 w' => ∃ (n : Nat),v130 = .int .i64 n ∧ A0_ (n + kq = c.f2.length + 1) ∧ A0_ (n ≤ c.f2.length) ∧ A0_ (R2 w W1 w' c g7 g8 gT g16 bO gj N #[.int .i64 (N : Int),.slice (some ⟨q1,0,none⟩) c.f1.length c.f1.length,.slice B2 c.f2.length d2,.slice (some ⟨q3,0,none⟩) c.f3.length c.f3.length,.slice (some ⟨q4,0,none⟩) c.f4.length c.f4.length,.slice (some ⟨q5,0,none⟩) c.f5.length c.f5.length,.slice B6 c.f6.length d6,.slice (some ⟨q7,0,none⟩) c.f7.length c.f7.length,.slice B8 c.f8.length d8,.slice B9 c.f9.length d9,.slice B10 c.f10.length d10] [rI (.slice (some ⟨q7,0,none⟩) c.f7.length c.f7.length) c.f7,rI (.slice (some ⟨q5,0,none⟩) c.f5.length c.f5.length) c.f5,rI (.slice (some ⟨q4,0,none⟩) c.f4.length c.f4.length) c.f4,rI (.slice (some ⟨q3,0,none⟩) c.f3.length c.f3.length) c.f3,rI (.slice (some ⟨q1,0,none⟩) c.f1.length c.f1.length) c.f1,rI (.slice B1 c.f1.length d1) c.f1,rL (.slice B2 c.f2.length d2) c.f2,rI (.slice B3 c.f3.length d3) c.f3,rI (.slice B4 c.f4.length d4) c.f4,rI (.slice B5 c.f5.length d5) c.f5,rI (.slice B7 c.f7.length d7) c.f7,rA (.slice B8 c.f8.length d8) c.f8,rS (.slice B9 c.f9.length d9) c.f9,rT (.slice B10 c.f10.length d10) c.f10] (.slice B6 c.f6.length d6)))
         case atStart => exact ⟨0,rfl,⟨by omega⟩,⟨Nat.zero_le _⟩,HR⟩
         case round =>
          clear HR
          obtain ⟨n,rfl,HKN,HNL2,HR⟩:=hrel
          by_cases cn : n < c.f2.length
          ·obtain ⟨k1,rfl⟩ : ∃ k1,gk = k1 + 1:=by
            cases gk with
            |zero => have:=HKN.out;omega
            |succ k1 => exact ⟨k1,rfl⟩
           have cnb : decide ((n : Int) < (c.f2.length : Int)) = true:=decide_eq_true (by omega)
           have p0 : (0 ≤ (n : Int)) = True:=eq_true (by omega)
           have p1 : ((n : Int) < (c.f2.length : Int)) = True:=eq_true (by omega)
           have hw1 : IntKind.i64.wrap ((n : Int) + 1) = ((n + 1 : Nat) : Int):=by have:=HSH.out.l2;have:=HSH.out.l6;have:=HSH.out.l8;rw [IntKind.wrap_i64];omega
           obtain ⟨ad,ea,h0,h1,h2⟩:=C_latch_get (Kd.C_below (Kd.C_below HC.out.r2 HB1.out) HR.out.below) n cn
           have ea : A2 = some ad:=ea
           subst ea
           have hx0:=(HBIN.out.i2 n _ (List.getElem?_eq_getElem cn))
           have hx1:=HBIN.out.u2 c.f2[n] (List.getElem_mem _)
           have hx2:=HBIN.out.r2 c.f2[n] (List.getElem_mem _)
           have HX6 : A0_ (c.f2[n]? = some c.f2[n]):=⟨List.getElem?_eq_getElem cn⟩
           generalize c.f2[n] = x at h0 h1 h2 hx0 hx1 hx2 HX6
           have HX0 : A0_ (0 ≤ x.f0 ∧ x.f0 ≤ 2 * (N : Int) + 1):=⟨by have:=HNS.out;omega⟩
           have HX1 : A0_ (0 ≤ x.f1 ∧ x.f1 ≤ 2 * (N : Int) + 1):=⟨by have:=HN.out;omega⟩
           have HX2 : A0_ (0 ≤ x.f2 ∧ x.f2 ≤ 2 * (N : Int) + 1):=⟨by have:=HN.out;omega⟩
           clear hx0 hx1 hx2
           go_upto_region 35 with (fail)
           clear h0 h1 h2
           have hbk : (wr.alloc (.cells #[.int .i64 x.f0,.int .i64 x.f1,.int .i64 x.f2] 61)).heap[wr.heap.size]? = some (.cells #[.int .i64 x.f0,.int .i64 x.f1,.int .i64 x.f2] 61 (0,0)):=blk_new wr _
           have HRx:=A0_.mk (HR.out.call (eA_ (Below.refl wr.heap.size wr) (.cells #[.int .i64 x.f0,.int .i64 x.f1,.int .i64 x.f2] 61)))
           obtain ⟨bx,hbx⟩ : ∃ b,wr.heap.size = b:=⟨_,rfl⟩
           rw [hbx] at hbk ⊢
           clear hbx HR
           generalize wr.alloc (.cells #[.int .i64 x.f0,.int .i64 x.f1,.int .i64 x.f2] 61) = Wx at hbk HRx ⊢
           have e0 : Wx.cell? ⟨bx,0,none⟩ = some (.int .i64 x.f0):=bC_ hbk 0
           have e1 : Wx.cell? ⟨bx,1,none⟩ = some (.int .i64 x.f1):=bC_ hbk 1
           have e2 : Wx.cell? ⟨bx,2,none⟩ = some (.int .i64 x.f2):=bC_ hbk 2
           have z2:=bF_ hbk 2
           have HE : A0_ (_ = _):=⟨hbk⟩
           clear hbk
           have y16 : Wx.cell? ⟨g16,0,none⟩ = some (.func (.func 40) #[] #[.pointer (some ⟨g7,0,none⟩)]):=bC_ HRx.out.h16 0
           obtain ⟨gl,cl,hvl,j1_,j2_,j3_⟩:=Kd.R_form (HRx.out.rows (rL (.slice B2 c.f2.length d2) c.f2) (.tail _ (.tail _ (.tail _ (.tail _ (.tail _ (.tail _ (.head _)))))))) (show 0 < c.f2.length by omega)
           injection hvl with e3 e4 e5
           subst e3
           clear e4 e5 j1_ j2_ j3_
           have LC2:=A0_.mk (lit_calls HRx.out.tt HNL.out x.f2 HX2.out.1 HX2.out.2)
           by_cases cr : x.f2 > 1
           ·have crb : decide (x.f2 > 1) = true:=decide_eq_true cr
            go_upto_region 37 with (first|((with_reducible refine gate_value (t:=138) rfl ?_);refine goesC_ (some 141) rfl rfl Tryz.func40 (by kernel_rfl) rfl #[.int .i64 x.f2] #[.pointer (some ⟨g7,0,none⟩)] #[.int .i64 x.f2,.pointer (some ⟨g7,0,none⟩)] rfl rfl (by (try simp only [List.map_toArray,List.map_cons,List.map_nil]);first|done|rfl) rfl ?_;(with_reducible refine (LC2.out).mono ?_);rintro e w4 ⟨rfl,hw4⟩;replace hw4:=hw4.symm;subst hw4;refine ⟨_,rfl,?_⟩))
            try rw [setCell_self e2]
            clear e0 e1 e2 z2 y16
            refine wp_normal' ?_
            refine start_ (n:=16) (S:=fun w' => w'.cell? ⟨bO,2,none⟩ = some (.slice (some ⟨gl,0,none⟩) c.f2.length d2) ∧ w'.cell? ⟨g16,0,none⟩ = some (.func (.func 40) #[] #[.pointer (some ⟨g7,0,none⟩)]) ∧ w'.cell? ⟨bx,0,none⟩ = some (.int .i64 x.f0) ∧ w'.cell? ⟨bx,1,none⟩ = some (.int .i64 x.f1) ∧ w'.cell? ⟨bx,2,none⟩ = some (.int .i64 x.f2)) (ds:=[15]) (Array.replicate 16 false) (by kernel_rfl) rfl rfl ⟨bC_ (R2.call HRx.out (below_drew (Below.refl Wx.heap.size Wx))).bo 2,bC_ (R2.call HRx.out (below_drew (Below.refl Wx.heap.size Wx))).h16 0,bC_ (bD_ HE.out) 0,bC_ (bD_ HE.out) 1,bC_ (bD_ HE.out) 2⟩ (fun hHeld => ?_)
            have HRa:=A0_.mk (HRx.out.call (below_drew (Below.refl Wx.heap.size Wx)))
            have HEa : A0_ (_ = _):=⟨bD_ HE.out⟩
            clear HRx HE LC2
            generalize Wx.drew = Wa at HRa HEa hHeld ⊢
            refine pure_ (i:=0) (N:=some 143) (v:=?_) (a':=?_) (zA_ 16 1) rfl rfl (by kernel_rfl) (fun _ _ _ h => by cases h.1) (Or.inl ⟨by rfl,?_⟩) ?_ ?_
            rotate_left
            ·intro w'
             go_simp
             with_reducible rfl
            rotate_left
            ·simp only [Act.put,sA_,sB_,sC_]
             rfl
            refine take_ (i:=1) (N:=some 144) (v:=?_) (a':=?_) (zA_ 16 3) rfl rfl (by kernel_rfl) (fun _ _ _ h => by cases h.1) (Or.inl ⟨by rfl,?_⟩) hHeld ?_ ?_
            rotate_left
            ·intro w' s_
             obtain ⟨s1_,s2_,s3_,s4_,s5_⟩:=s_
             go_simp
             with_reducible rfl
            rotate_left
            ·simp only [Act.put,sA_,sB_,sC_]
             rfl
            refine pure_ (i:=2) (N:=some 145) (v:=?_) (a':=?_) (zA_ 16 7) rfl rfl (by kernel_rfl) (fun _ _ _ h => by cases h.1) (Or.inl ⟨by rfl,?_⟩) ?_ ?_
            rotate_left
            ·intro w'
             go_simp
             with_reducible rfl
            rotate_left
            ·simp only [Act.put,sA_,sB_,sC_]
             rfl
            refine take_ (i:=3) (N:=some 146) (v:=?_) (a':=?_) (zA_ 16 15) rfl rfl (by kernel_rfl) (fun _ _ _ h => by cases h.1) (Or.inl ⟨by rfl,?_⟩) hHeld ?_ ?_
            rotate_left
            ·intro w' s_
             obtain ⟨s1_,s2_,s3_,s4_,s5_⟩:=s_
             go_simp
             with_reducible rfl
            rotate_left
            ·simp only [Act.put,sA_,sB_,sC_]
             rfl
            refine pure_ (i:=4) (N:=some 147) (v:=?_) (a':=?_) (zA_ 16 31) rfl rfl (by kernel_rfl) (fun _ _ _ h => by cases h.1) (Or.inl ⟨by rfl,?_⟩) ?_ ?_
            rotate_left
            ·intro w'
             go_simp
             with_reducible rfl
            rotate_left
            ·simp only [Act.put,sA_,sB_,sC_]
             rfl
            refine take_ (i:=5) (N:=some 148) (v:=?_) (a':=?_) (zA_ 16 63) rfl rfl (by kernel_rfl) (fun _ _ _ h => by cases h.1) (Or.inl ⟨by rfl,?_⟩) hHeld ?_ ?_
            rotate_left
            ·intro w' s_
             obtain ⟨s1_,s2_,s3_,s4_,s5_⟩:=s_
             go_simp
             with_reducible rfl
            rotate_left
            ·simp only [Act.put,sA_,sB_,sC_]
             rfl
            refine take_ (i:=7) (N:=some 150) (v:=?_) (a':=?_) (zA_ 16 191) rfl rfl (by kernel_rfl) (fun _ _ _ h => by cases h.1) (Or.inl ⟨by rfl,?_⟩) hHeld ?_ ?_
            rotate_left
            ·intro w' s_
             obtain ⟨s1_,s2_,s3_,s4_,s5_⟩:=s_
             go_simp
             with_reducible rfl
            rotate_left
            ·simp only [Act.put,sA_,sB_,sC_]
             rfl
            refine pure_ (i:=8) (N:=some 151) (v:=?_) (a':=?_) (zA_ 16 447) rfl rfl (by kernel_rfl) (fun _ _ _ h => by cases h.1) (Or.inl ⟨by rfl,?_⟩) ?_ ?_
            rotate_left
            ·intro w'
             go_simp
             with_reducible rfl
            rotate_left
            ·simp only [Act.put,sA_,sB_,sC_]
             rfl
            refine take_ (i:=9) (N:=some 152) (v:=?_) (a':=?_) (zA_ 16 959) rfl rfl (by kernel_rfl) (fun _ _ _ h => by cases h.1) (Or.inl ⟨by rfl,?_⟩) hHeld ?_ ?_
            rotate_left
            ·intro w' s_
             obtain ⟨s1_,s2_,s3_,s4_,s5_⟩:=s_
             go_simp
             with_reducible rfl
            rotate_left
            ·simp only [Act.put,sA_,sB_,sC_]
             rfl
            refine pure_ (i:=11) (N:=some 154) (v:=?_) (a':=?_) (zA_ 16 3007) rfl rfl (by kernel_rfl) (fun _ _ _ h => by cases h.1) (Or.inl ⟨by rfl,?_⟩) ?_ ?_
            rotate_left
            ·intro w'
             go_simp
             with_reducible rfl
            rotate_left
            ·simp only [Act.put,sA_,sB_,sC_]
             rfl
            refine take_ (i:=12) (N:=some 155) (v:=?_) (a':=?_) (zA_ 16 7103) rfl rfl (by kernel_rfl) (fun _ _ _ h => by cases h.1) (Or.inl ⟨by rfl,?_⟩) hHeld ?_ ?_
            rotate_left
            ·intro w' s_
             obtain ⟨s1_,s2_,s3_,s4_,s5_⟩:=s_
             go_simp
             with_reducible rfl
            rotate_left
            ·simp only [Act.put,sA_,sB_,sC_]
             rfl
            refine one_ (i:=6) (N:=some 149) (zA_ 16 7167) rfl rfl (by kernel_rfl) (by decide) (fun K hK => ?_)
            refine goesV_ (t:=146) Tryz.func40 (by kernel_rfl) rfl #[.int .i64 x.f0] #[.pointer (some ⟨g7,0,none⟩)] #[.int .i64 x.f0,.pointer (some ⟨g7,0,none⟩)] (by rfl) rfl rfl rfl (by (try simp only [List.map_toArray,List.map_cons,List.map_nil]);first|done|rfl) rfl ?_
            refine (lit_calls HRa.out.tt HNL.out x.f0 HX0.out.1 HX0.out.2).mono ?_
            rintro e Wb ⟨rfl,rfl⟩
            refine ⟨_,rfl,hK.out _ _ hHeld (fun hHeld2 => ?_)⟩
            clear hK K hHeld
            have hHeld:=hHeld2
            clear hHeld2
            refine norm_ (a':=?_) ?_ ?_
            rotate_left
            ·show Act.put _ (some 149) _ = _
             simp only [Act.put,sA_,sB_,sC_]
             rfl
            refine one_ (i:=10) (N:=some 153) (zA_ 16 8191) rfl rfl (by kernel_rfl) (by decide) (fun K hK => ?_)
            refine goesV_ (t:=150) Tryz.func40 (by kernel_rfl) rfl #[.int .i64 x.f1] #[.pointer (some ⟨g7,0,none⟩)] #[.int .i64 x.f1,.pointer (some ⟨g7,0,none⟩)] (by rfl) rfl rfl rfl (by (try simp only [List.map_toArray,List.map_cons,List.map_nil]);first|done|rfl) rfl ?_
            refine (lit_calls HRa.out.tt HNL.out x.f1 HX1.out.1 HX1.out.2).mono ?_
            rintro e Wb ⟨rfl,rfl⟩
            refine ⟨_,rfl,hK.out _ _ hHeld (fun hHeld2 => ?_)⟩
            clear hK K hHeld
            have hHeld:=hHeld2
            clear hHeld2
            refine norm_ (a':=?_) ?_ ?_
            rotate_left
            ·show Act.put _ (some 153) _ = _
             simp only [Act.put,sA_,sB_,sC_]
             rfl
            refine pure_ (i:=13) (N:=some 156) (v:=?_) (a':=?_) (zA_ 16 16383) rfl rfl (by kernel_rfl) (fun _ _ _ h => by cases h.1) (Or.inl ⟨by rfl,?_⟩) ?_ ?_
            rotate_left
            ·intro w'
             go_simp
             with_reducible rfl
            rotate_left
            ·simp only [Act.put,sA_,sB_,sC_]
             rfl
            refine pure_ (i:=14) (N:=some 157) (v:=?_) (a':=?_) (zA_ 16 32767) rfl rfl (by kernel_rfl) (fun _ _ _ h => by cases h.1) (Or.inl ⟨by rfl,?_⟩) ?_ ?_
            rotate_left
            ·intro w'
             go_simp
             with_reducible rfl
            rotate_left
            ·simp only [Act.put,sA_,sB_,sC_]
             rfl
            obtain ⟨r0,r1,r2,rz⟩:=rowL_at (HRa.out.rows (rL (.slice (some ⟨gl,0,none⟩) c.f2.length d2) c.f2) (.tail _ (.tail _ (.tail _ (.tail _ (.tail _ (.tail _ (.head _)))))))) n cn
            have hxe : c.f2[n] = x:=by have:=HX6.out;rw [List.getElem?_eq_getElem cn] at this;injection this
            rw [hxe] at r0 r1 r2
            have z0:=rz (n * 3)
            have z1:=rz (n * 3 + 1)
            have z2:=rz (n * 3 + 2)
            have hse:=set3_self r0 r1 r2
            refine last_ (i:=15) (N:=none) (zA_ 16 65535) rfl rfl (by kernel_rfl) (by decide) (fun K hK => ?_)
            refine skip_ (w1:=((Wb.setCell ⟨gl,n * 3,none⟩ (.int .i64 x.f0)).setCell ⟨gl,n * 3 + 1,none⟩ (.int .i64 x.f1)).setCell ⟨gl,n * 3 + 2,none⟩ (.int .i64 x.f2)) rfl rfl ?_ ?_
            ·go_simp
            rw [hse]
            clear r0 r1 r2 rz z0 z1 z2 hse hxe
            have HRn:=HRa
            clear HRa HEa
            refine hK.out _ _ ?_
            clear hK K
            clear hHeld
            refine done_ (by kernel_rfl) ?_
            refine ⟨rfl,?_⟩
            go_wp2
            repeat (go_quiet (fail);try go_wp2)
            go_roundg k1
            case measure => omega
            case rel => exact ⟨n + 1,rfl,⟨by have:=HKN.out;omega⟩,⟨by omega⟩,HRn⟩
           ·have crb : decide (x.f2 > 1) = false:=decide_eq_false cr
            go_upto_region 37 with (fail)
            clear e0 e1 e2 z2 y16
            refine wp_normal' ?_
            refine start_ (n:=16) (S:=fun w' => w'.cell? ⟨bO,2,none⟩ = some (.slice (some ⟨gl,0,none⟩) c.f2.length d2) ∧ w'.cell? ⟨g16,0,none⟩ = some (.func (.func 40) #[] #[.pointer (some ⟨g7,0,none⟩)]) ∧ w'.cell? ⟨bx,0,none⟩ = some (.int .i64 x.f0) ∧ w'.cell? ⟨bx,1,none⟩ = some (.int .i64 x.f1) ∧ w'.cell? ⟨bx,2,none⟩ = some (.int .i64 x.f2)) (ds:=[15]) (Array.replicate 16 false) (by kernel_rfl) rfl rfl ⟨bC_ (R2.call HRx.out (below_drew (Below.refl Wx.heap.size Wx))).bo 2,bC_ (R2.call HRx.out (below_drew (Below.refl Wx.heap.size Wx))).h16 0,bC_ (bD_ HE.out) 0,bC_ (bD_ HE.out) 1,bC_ (bD_ HE.out) 2⟩ (fun hHeld => ?_)
            have HRa:=A0_.mk (HRx.out.call (below_drew (Below.refl Wx.heap.size Wx)))
            have HEa : A0_ (_ = _):=⟨bD_ HE.out⟩
            clear HRx HE LC2
            generalize Wx.drew = Wa at HRa HEa hHeld ⊢
            refine pure_ (i:=0) (N:=some 143) (v:=?_) (a':=?_) (zA_ 16 1) rfl rfl (by kernel_rfl) (fun _ _ _ h => by cases h.1) (Or.inl ⟨by rfl,?_⟩) ?_ ?_
            rotate_left
            ·intro w'
             go_simp
             with_reducible rfl
            rotate_left
            ·simp only [Act.put,sA_,sB_,sC_]
             rfl
            refine take_ (i:=1) (N:=some 144) (v:=?_) (a':=?_) (zA_ 16 3) rfl rfl (by kernel_rfl) (fun _ _ _ h => by cases h.1) (Or.inl ⟨by rfl,?_⟩) hHeld ?_ ?_
            rotate_left
            ·intro w' s_
             obtain ⟨s1_,s2_,s3_,s4_,s5_⟩:=s_
             go_simp
             with_reducible rfl
            rotate_left
            ·simp only [Act.put,sA_,sB_,sC_]
             rfl
            refine pure_ (i:=2) (N:=some 145) (v:=?_) (a':=?_) (zA_ 16 7) rfl rfl (by kernel_rfl) (fun _ _ _ h => by cases h.1) (Or.inl ⟨by rfl,?_⟩) ?_ ?_
            rotate_left
            ·intro w'
             go_simp
             with_reducible rfl
            rotate_left
            ·simp only [Act.put,sA_,sB_,sC_]
             rfl
            refine take_ (i:=3) (N:=some 146) (v:=?_) (a':=?_) (zA_ 16 15) rfl rfl (by kernel_rfl) (fun _ _ _ h => by cases h.1) (Or.inl ⟨by rfl,?_⟩) hHeld ?_ ?_
            rotate_left
            ·intro w' s_
             obtain ⟨s1_,s2_,s3_,s4_,s5_⟩:=s_
             go_simp
             with_reducible rfl
            rotate_left
            ·simp only [Act.put,sA_,sB_,sC_]
             rfl
            refine pure_ (i:=4) (N:=some 147) (v:=?_) (a':=?_) (zA_ 16 31) rfl rfl (by kernel_rfl) (fun _ _ _ h => by cases h.1) (Or.inl ⟨by rfl,?_⟩) ?_ ?_
            rotate_left
            ·intro w'
             go_simp
             with_reducible rfl
            rotate_left
            ·simp only [Act.put,sA_,sB_,sC_]
             rfl
            refine take_ (i:=5) (N:=some 148) (v:=?_) (a':=?_) (zA_ 16 63) rfl rfl (by kernel_rfl) (fun _ _ _ h => by cases h.1) (Or.inl ⟨by rfl,?_⟩) hHeld ?_ ?_
            rotate_left
            ·intro w' s_
             obtain ⟨s1_,s2_,s3_,s4_,s5_⟩:=s_
             go_simp
             with_reducible rfl
            rotate_left
            ·simp only [Act.put,sA_,sB_,sC_]
             rfl
            refine take_ (i:=7) (N:=some 150) (v:=?_) (a':=?_) (zA_ 16 191) rfl rfl (by kernel_rfl) (fun _ _ _ h => by cases h.1) (Or.inl ⟨by rfl,?_⟩) hHeld ?_ ?_
            rotate_left
            ·intro w' s_
             obtain ⟨s1_,s2_,s3_,s4_,s5_⟩:=s_
             go_simp
             with_reducible rfl
            rotate_left
            ·simp only [Act.put,sA_,sB_,sC_]
             rfl
            refine pure_ (i:=8) (N:=some 151) (v:=?_) (a':=?_) (zA_ 16 447) rfl rfl (by kernel_rfl) (fun _ _ _ h => by cases h.1) (Or.inl ⟨by rfl,?_⟩) ?_ ?_
            rotate_left
            ·intro w'
             go_simp
             with_reducible rfl
            rotate_left
            ·simp only [Act.put,sA_,sB_,sC_]
             rfl
            refine take_ (i:=9) (N:=some 152) (v:=?_) (a':=?_) (zA_ 16 959) rfl rfl (by kernel_rfl) (fun _ _ _ h => by cases h.1) (Or.inl ⟨by rfl,?_⟩) hHeld ?_ ?_
            rotate_left
            ·intro w' s_
             obtain ⟨s1_,s2_,s3_,s4_,s5_⟩:=s_
             go_simp
             with_reducible rfl
            rotate_left
            ·simp only [Act.put,sA_,sB_,sC_]
             rfl
            refine pure_ (i:=11) (N:=some 154) (v:=?_) (a':=?_) (zA_ 16 3007) rfl rfl (by kernel_rfl) (fun _ _ _ h => by cases h.1) (Or.inl ⟨by rfl,?_⟩) ?_ ?_
            rotate_left
            ·intro w'
             go_simp
             with_reducible rfl
            rotate_left
            ·simp only [Act.put,sA_,sB_,sC_]
             rfl
            refine take_ (i:=12) (N:=some 155) (v:=?_) (a':=?_) (zA_ 16 7103) rfl rfl (by kernel_rfl) (fun _ _ _ h => by cases h.1) (Or.inl ⟨by rfl,?_⟩) hHeld ?_ ?_
            rotate_left
            ·intro w' s_
             obtain ⟨s1_,s2_,s3_,s4_,s5_⟩:=s_
             go_simp
             with_reducible rfl
            rotate_left
            ·simp only [Act.put,sA_,sB_,sC_]
             rfl
            refine one_ (i:=6) (N:=some 149) (zA_ 16 7167) rfl rfl (by kernel_rfl) (by decide) (fun K hK => ?_)
            refine goesV_ (t:=146) Tryz.func40 (by kernel_rfl) rfl #[.int .i64 x.f0] #[.pointer (some ⟨g7,0,none⟩)] #[.int .i64 x.f0,.pointer (some ⟨g7,0,none⟩)] (by rfl) rfl rfl rfl (by (try simp only [List.map_toArray,List.map_cons,List.map_nil]);first|done|rfl) rfl ?_
            refine (lit_calls HRa.out.tt HNL.out x.f0 HX0.out.1 HX0.out.2).mono ?_
            rintro e Wb ⟨rfl,rfl⟩
            refine ⟨_,rfl,hK.out _ _ hHeld (fun hHeld2 => ?_)⟩
            clear hK K hHeld
            have hHeld:=hHeld2
            clear hHeld2
            refine norm_ (a':=?_) ?_ ?_
            rotate_left
            ·show Act.put _ (some 149) _ = _
             simp only [Act.put,sA_,sB_,sC_]
             rfl
            refine one_ (i:=10) (N:=some 153) (zA_ 16 8191) rfl rfl (by kernel_rfl) (by decide) (fun K hK => ?_)
            refine goesV_ (t:=150) Tryz.func40 (by kernel_rfl) rfl #[.int .i64 x.f1] #[.pointer (some ⟨g7,0,none⟩)] #[.int .i64 x.f1,.pointer (some ⟨g7,0,none⟩)] (by rfl) rfl rfl rfl (by (try simp only [List.map_toArray,List.map_cons,List.map_nil]);first|done|rfl) rfl ?_
            refine (lit_calls HRa.out.tt HNL.out x.f1 HX1.out.1 HX1.out.2).mono ?_
            rintro e Wb ⟨rfl,rfl⟩
            refine ⟨_,rfl,hK.out _ _ hHeld (fun hHeld2 => ?_)⟩
            clear hK K hHeld
            have hHeld:=hHeld2
            clear hHeld2
            refine norm_ (a':=?_) ?_ ?_
            rotate_left
            ·show Act.put _ (some 153) _ = _
             simp only [Act.put,sA_,sB_,sC_]
             rfl
            refine pure_ (i:=13) (N:=some 156) (v:=?_) (a':=?_) (zA_ 16 16383) rfl rfl (by kernel_rfl) (fun _ _ _ h => by cases h.1) (Or.inl ⟨by rfl,?_⟩) ?_ ?_
            rotate_left
            ·intro w'
             go_simp
             with_reducible rfl
            rotate_left
            ·simp only [Act.put,sA_,sB_,sC_]
             rfl
            refine pure_ (i:=14) (N:=some 157) (v:=?_) (a':=?_) (zA_ 16 32767) rfl rfl (by kernel_rfl) (fun _ _ _ h => by cases h.1) (Or.inl ⟨by rfl,?_⟩) ?_ ?_
            rotate_left
            ·intro w'
             go_simp
             with_reducible rfl
            rotate_left
            ·simp only [Act.put,sA_,sB_,sC_]
             rfl
            obtain ⟨r0,r1,r2,rz⟩:=rowL_at (HRa.out.rows (rL (.slice (some ⟨gl,0,none⟩) c.f2.length d2) c.f2) (.tail _ (.tail _ (.tail _ (.tail _ (.tail _ (.tail _ (.head _)))))))) n cn
            have hxe : c.f2[n] = x:=by have:=HX6.out;rw [List.getElem?_eq_getElem cn] at this;injection this
            rw [hxe] at r0 r1 r2
            have z0:=rz (n * 3)
            have z1:=rz (n * 3 + 1)
            have z2:=rz (n * 3 + 2)
            have hse:=set3_self r0 r1 r2
            refine last_ (i:=15) (N:=none) (zA_ 16 65535) rfl rfl (by kernel_rfl) (by decide) (fun K hK => ?_)
            refine skip_ (w1:=((Wb.setCell ⟨gl,n * 3,none⟩ (.int .i64 x.f0)).setCell ⟨gl,n * 3 + 1,none⟩ (.int .i64 x.f1)).setCell ⟨gl,n * 3 + 2,none⟩ (.int .i64 x.f2)) rfl rfl ?_ ?_
            ·go_simp
            rw [hse]
            clear r0 r1 r2 rz z0 z1 z2 hse hxe
            have HRn:=HRa
            clear HRa HEa
            refine hK.out _ _ ?_
            clear hK K
            clear hHeld
            refine done_ (by kernel_rfl) ?_
            refine ⟨rfl,?_⟩
            go_wp2
            repeat (go_quiet (fail);try go_wp2)
            go_roundg k1
            case measure => omega
            case rel => exact ⟨n + 1,rfl,⟨by have:=HKN.out;omega⟩,⟨by omega⟩,HRn⟩
          ·have cnb : decide ((n : Int) < (c.f2.length : Int)) = false:=decide_eq_false (by omega)
           have HRx:=HR
           clear HR HKN HNL2
           have HR:=HRx
           clear HRx
           go_wp2
           repeat (go_quiet (fail);try go_wp2)
           (try simp only [Act.put,sA_,sB_,sC_])
           go_loopg [161] (c.f8.length + 1) (fun kq v161 w' => ∃ (n : Nat),v161 = .int .i64 n ∧ A0_ (n + kq = c.f8.length + 1) ∧ A0_ (n ≤ c.f8.length) ∧ A0_ (R2 w W1 w' c g7 g8 gT g16 bO gj N #[.int .i64 (N : Int),.slice (some ⟨q1,0,none⟩) c.f1.length c.f1.length,.slice B2 c.f2.length d2,.slice (some ⟨q3,0,none⟩) c.f3.length c.f3.length,.slice (some ⟨q4,0,none⟩) c.f4.length c.f4.length,.slice (some ⟨q5,0,none⟩) c.f5.length c.f5.length,.slice B6 c.f6.length d6,.slice (some ⟨q7,0,none⟩) c.f7.length c.f7.length,.slice B8 c.f8.length d8,.slice B9 c.f9.length d9,.slice B10 c.f10.length d10] [rI (.slice (some ⟨q7,0,none⟩) c.f7.length c.f7.length) c.f7,rI (.slice (some ⟨q5,0,none⟩) c.f5.length c.f5.length) c.f5,rI (.slice (some ⟨q4,0,none⟩) c.f4.length c.f4.length) c.f4,rI (.slice (some ⟨q3,0,none⟩) c.f3.length c.f3.length) c.f3,rI (.slice (some ⟨q1,0,none⟩) c.f1.length c.f1.length) c.f1,rI (.slice B1 c.f1.length d1) c.f1,rL (.slice B2 c.f2.length d2) c.f2,rI (.slice B3 c.f3.length d3) c.f3,rI (.slice B4 c.f4.length d4) c.f4,rI (.slice B5 c.f5.length d5) c.f5,rI (.slice B7 c.f7.length d7) c.f7,rA (.slice B8 c.f8.length d8) c.f8,rS (.slice B9 c.f9.length d9) c.f9,rT (.slice B10 c.f10.length d10) c.f10] (.slice B6 c.f6.length d6)))
           case atStart => exact ⟨0,rfl,⟨by omega⟩,⟨Nat.zero_le _⟩,HR⟩
           case round =>
            clear HR
            obtain ⟨n,rfl,HKN,HNL2,HR⟩:=hrel
            by_cases cn : n < c.f8.length
            ·obtain ⟨k1,rfl⟩ : ∃ k1,gk = k1 + 1:=by
              cases gk with
              |zero => have:=HKN.out;omega
              |succ k1 => exact ⟨k1,rfl⟩
             have cnb : decide ((n : Int) < (c.f8.length : Int)) = true:=decide_eq_true (by omega)
             have p0 : (0 ≤ (n : Int)) = True:=eq_true (by omega)
             have p1 : ((n : Int) < (c.f8.length : Int)) = True:=eq_true (by omega)
             have hw1 : IntKind.i64.wrap ((n : Int) + 1) = ((n + 1 : Nat) : Int):=by have:=HSH.out.l2;have:=HSH.out.l6;have:=HSH.out.l8;rw [IntKind.wrap_i64];omega
             obtain ⟨ad0,ea,hc⟩:=C_int_get (Kd.C_below HO1.out HR.out.below) n (by rw [ordl_len];exact cn)
             have ea : AO = some ad0:=ea
             subst ea
             rw [ordl_get] at hc
             obtain ⟨ad,ea,h0,h1,h2⟩:=C_and_get (Kd.C_below (Kd.C_below HC.out.r8 HB1.out) HR.out.below) n cn
             have ea : A8 = some ad:=ea
             subst ea
             have hx:=HBIN.out.i8 n _ (List.getElem?_eq_getElem cn)
             have HX6 : A0_ (c.f8[n] = c.f8[n]):=⟨rfl⟩
             obtain ⟨x,hxe⟩ : ∃ x,c.f8[n] = x:=⟨_,rfl⟩
             rw [hxe] at h0 h1 h2 hx
             clear HX6
             have HXE : A0_ (c.f8[n] = x):=⟨hxe⟩
             clear hxe
             have HX0 : A0_ (0 ≤ x.f0 ∧ x.f0 ≤ 2 * (N : Int) + 1):=⟨by have:=HNS.out;omega⟩
             have HX1 : A0_ (0 ≤ x.f1 ∧ x.f1 ≤ 2 * (N : Int) + 1):=⟨by have:=HX0.out;omega⟩
             have HX2 : A0_ (0 ≤ x.f2 ∧ x.f2 ≤ 2 * (N : Int) + 1):=⟨by have:=HX1.out;omega⟩
             have hmx : max x.f1 x.f2 = x.f1:=by omega
             have hmn : min x.f1 x.f2 = x.f2:=by omega
             have HMX:=A0_.mk hmx
             have HMN:=A0_.mk hmn
             clear hmx hmn hx
             have H0:=A0_.mk h0
             have H1:=A0_.mk h1
             have H2:=A0_.mk h2
             go_upto_region 42 with (fail)
             clear hc
             have hb8 : wr.cell? ⟨b1,8,none⟩ = some (.slice (some ad) c.f8.length c8):=(bC_ (blk_below HX1b.out HR.out.below) 8).trans rfl
             refine wp_normal' ?_
             refine start_ (n:=18) (S:=fun w' => w'.cell? ⟨g16,0,none⟩ = some (.func (.func 40) #[] #[.pointer (some ⟨g7,0,none⟩)]) ∧ w'.cell? ⟨b1,8,none⟩ = some (.slice (some ad) c.f8.length c8) ∧ w'.cell? (ad.add (n * 3)) = some (.int .i64 x.f0) ∧ w'.cell? ⟨(ad.add (n * 3)).block,(ad.add (n * 3)).off + 1,none⟩ = some (.int .i64 x.f1) ∧ w'.cell? ⟨(ad.add (n * 3)).block,(ad.add (n * 3)).off + 2,none⟩ = some (.int .i64 x.f2)) (ds:=[]) (Array.replicate 18 false) (by kernel_rfl) rfl rfl ⟨bC_ (bD_ HR.out.h16) 0,hb8,H0.out,H1.out,H2.out⟩ (fun hHeld => ?_)
             have HRa:=A0_.mk (HR.out.call (below_drew (Below.refl wr.heap.size wr)))
             clear HR H0 H1 H2 h0 h1 h2 hb8
             generalize wr.drew = Wa at HRa hHeld ⊢
             refine take_ (i:=0) (N:=some 166) (v:=?_) (a':=?_) (zA_ 18 1) rfl rfl (by kernel_rfl) (fun _ _ _ h => by cases h.1) (Or.inl ⟨by rfl,?_⟩) hHeld ?_ ?_
             rotate_left
             ·intro w' s_
              obtain ⟨s1_,s2_,s3_,s4_,s5_⟩:=s_
              go_simp
              with_reducible rfl
             rotate_left
             ·simp only [Act.put,sA_,sB_,sC_]
              rfl
             refine pure_ (i:=1) (N:=some 167) (v:=?_) (a':=?_) (zA_ 18 3) rfl rfl (by kernel_rfl) (fun _ _ _ h => by cases h.1) (Or.inl ⟨by rfl,?_⟩) ?_ ?_
             rotate_left
             ·intro w'
              go_simp
              with_reducible rfl
             rotate_left
             ·simp only [Act.put,sA_,sB_,sC_]
              rfl
             refine take_ (i:=2) (N:=some 168) (v:=?_) (a':=?_) (zA_ 18 7) rfl rfl (by kernel_rfl) (fun _ _ _ h => by cases h.1) (Or.inl ⟨by rfl,?_⟩) hHeld ?_ ?_
             rotate_left
             ·intro w' s_
              obtain ⟨s1_,s2_,s3_,s4_,s5_⟩:=s_
              go_simp
              with_reducible rfl
             rotate_left
             ·simp only [Act.put,sA_,sB_,sC_]
              rfl
             refine pure_ (i:=3) (N:=some 169) (v:=?_) (a':=?_) (zA_ 18 15) rfl rfl (by kernel_rfl) (fun _ _ _ h => by cases h.1) (Or.inl ⟨by rfl,?_⟩) ?_ ?_
             rotate_left
             ·intro w'
              go_simp
              with_reducible rfl
             rotate_left
             ·simp only [Act.put,sA_,sB_,sC_]
              rfl
             refine pure_ (i:=4) (N:=some 170) (v:=?_) (a':=?_) (zA_ 18 31) rfl rfl (by kernel_rfl) (fun _ _ _ h => by cases h.1) (Or.inl ⟨by rfl,?_⟩) ?_ ?_
             rotate_left
             ·intro w'
              go_simp
              with_reducible rfl
             rotate_left
             ·simp only [Act.put,sA_,sB_,sC_]
              rfl
             refine pure_ (i:=5) (N:=some 171) (v:=?_) (a':=?_) (zA_ 18 63) rfl rfl (by kernel_rfl) (fun _ _ _ h => by cases h.1) (Or.inl ⟨by rfl,?_⟩) ?_ ?_
             rotate_left
             ·intro w'
              go_simp
              with_reducible rfl
             rotate_left
             ·simp only [Act.put,sA_,sB_,sC_]
              rfl
             refine take_ (i:=6) (N:=some 172) (v:=?_) (a':=?_) (zA_ 18 127) rfl rfl (by kernel_rfl) (fun _ _ _ h => by cases h.1) (Or.inl ⟨by rfl,?_⟩) hHeld ?_ ?_
             rotate_left
             ·intro w' s_
              obtain ⟨s1_,s2_,s3_,s4_,s5_⟩:=s_
              go_simp
              with_reducible rfl
             rotate_left
             ·simp only [Act.put,sA_,sB_,sC_]
              rfl
             refine take_ (i:=8) (N:=some 174) (v:=?_) (a':=?_) (zA_ 18 383) rfl rfl (by kernel_rfl) (fun _ _ _ h => by cases h.1) (Or.inl ⟨by rfl,?_⟩) hHeld ?_ ?_
             rotate_left
             ·intro w' s_
              obtain ⟨s1_,s2_,s3_,s4_,s5_⟩:=s_
              go_simp
              with_reducible rfl
             rotate_left
             ·simp only [Act.put,sA_,sB_,sC_]
              rfl
             refine pure_ (i:=9) (N:=some 175) (v:=?_) (a':=?_) (zA_ 18 895) rfl rfl (by kernel_rfl) (fun _ _ _ h => by cases h.1) (Or.inl ⟨by rfl,?_⟩) ?_ ?_
             rotate_left
             ·intro w'
              go_simp
              with_reducible rfl
             rotate_left
             ·simp only [Act.put,sA_,sB_,sC_]
              rfl
             refine take_ (i:=10) (N:=some 176) (v:=?_) (a':=?_) (zA_ 18 1919) rfl rfl (by kernel_rfl) (fun _ _ _ h => by cases h.1) (Or.inl ⟨by rfl,?_⟩) hHeld ?_ ?_
             rotate_left
             ·intro w' s_
              obtain ⟨s1_,s2_,s3_,s4_,s5_⟩:=s_
              go_simp
              with_reducible rfl
             rotate_left
             ·simp only [Act.put,sA_,sB_,sC_]
              rfl
             refine pure_ (i:=11) (N:=some 177) (v:=?_) (a':=?_) (zA_ 18 3967) rfl rfl (by kernel_rfl) (fun _ _ _ h => by cases h.1) (Or.inl ⟨by rfl,?_⟩) ?_ ?_
             rotate_left
             ·intro w'
              go_simp
              with_reducible rfl
             rotate_left
             ·simp only [Act.put,sA_,sB_,sC_]
              rfl
             refine pure_ (i:=12) (N:=some 178) (v:=?_) (a':=?_) (zA_ 18 8063) rfl rfl (by kernel_rfl) (fun _ _ _ h => by cases h.1) (Or.inl ⟨by rfl,?_⟩) ?_ ?_
             rotate_left
             ·intro w'
              go_simp
              with_reducible rfl
             rotate_left
             ·simp only [Act.put,sA_,sB_,sC_]
              rfl
             refine pure_ (i:=13) (N:=some 179) (v:=?_) (a':=?_) (zA_ 18 16255) rfl rfl (by kernel_rfl) (fun _ _ _ h => by cases h.1) (Or.inl ⟨by rfl,?_⟩) ?_ ?_
             rotate_left
             ·intro w'
              go_simp
              with_reducible rfl
             rotate_left
             ·simp only [Act.put,sA_,sB_,sC_]
              rfl
             refine take_ (i:=14) (N:=some 180) (v:=?_) (a':=?_) (zA_ 18 32639) rfl rfl (by kernel_rfl) (fun _ _ _ h => by cases h.1) (Or.inl ⟨by rfl,?_⟩) hHeld ?_ ?_
             rotate_left
             ·intro w' s_
              obtain ⟨s1_,s2_,s3_,s4_,s5_⟩:=s_
              go_simp
              with_reducible rfl
             rotate_left
             ·simp only [Act.put,sA_,sB_,sC_]
              rfl
             refine one_ (i:=7) (N:=some 173) (zA_ 18 32767) rfl rfl (by kernel_rfl) (by decide) (fun K hK => ?_)
             refine goesV_ (t:=166) Tryz.func40 (by kernel_rfl) rfl #[.int .i64 x.f1] #[.pointer (some ⟨g7,0,none⟩)] #[.int .i64 x.f1,.pointer (some ⟨g7,0,none⟩)] (by rfl) rfl rfl rfl (by (try simp only [List.map_toArray,List.map_cons,List.map_nil]);first|done|rfl) rfl ?_
             refine (lit_calls HRa.out.tt HNL.out x.f1 HX1.out.1 HX1.out.2).mono ?_
             rintro e Wb ⟨rfl,rfl⟩
             refine ⟨_,rfl,hK.out _ _ hHeld (fun hHeld2 => ?_)⟩
             clear hK K hHeld
             have hHeld:=hHeld2
             clear hHeld2
             refine norm_ (a':=?_) ?_ ?_
             rotate_left
             ·show Act.put _ (some 173) _ = _
              simp only [Act.put,sA_,sB_,sC_]
              rfl
             refine one_ (i:=15) (N:=some 181) (zA_ 18 65535) rfl rfl (by kernel_rfl) (by decide) (fun K hK => ?_)
             refine goesV_ (t:=174) Tryz.func40 (by kernel_rfl) rfl #[.int .i64 x.f2] #[.pointer (some ⟨g7,0,none⟩)] #[.int .i64 x.f2,.pointer (some ⟨g7,0,none⟩)] (by rfl) rfl rfl rfl (by (try simp only [List.map_toArray,List.map_cons,List.map_nil]);first|done|rfl) rfl ?_
             refine (lit_calls HRa.out.tt HNL.out x.f2 HX2.out.1 HX2.out.2).mono ?_
             rintro e Wb ⟨rfl,rfl⟩
             refine ⟨_,rfl,hK.out _ _ hHeld (fun hHeld2 => ?_)⟩
             clear hK K hHeld
             have hHeld:=hHeld2
             clear hHeld2
             refine norm_ (a':=?_) ?_ ?_
             rotate_left
             ·show Act.put _ (some 181) _ = _
              simp only [Act.put,sA_,sB_,sC_]
              rfl
             refine pure_ (i:=16) (N:=some 25) (v:=?_) (a':=?_) (zA_ 18 131071) rfl rfl (by kernel_rfl) (fun _ _ _ h => by cases h.1) (Or.inl ⟨by rfl,?_⟩) ?_ ?_
             rotate_left
             ·intro w'
              go_simp
              with_reducible rfl
             rotate_left
             ·simp only [Act.put,sA_,sB_,sC_]
              rfl
             refine pure_ (i:=17) (N:=some 26) (v:=?_) (a':=?_) (zA_ 18 262143) rfl rfl (by kernel_rfl) (fun _ _ _ h => by cases h.1) (Or.inl ⟨by rfl,?_⟩) ?_ ?_
             rotate_left
             ·intro w'
              go_simp
              with_reducible rfl
             rotate_left
             ·simp only [Act.put,sA_,sB_,sC_]
              rfl
             have HH:=A0_.mk hHeld
             clear hHeld
             refine done_ (by kernel_rfl) ?_
             refine ⟨rfl,?_⟩
             rename_i hKK
             refine hKK _ _ ?_
             clear hKK
             go_upto_region 43 with (fail)
             obtain ⟨ga,ca,hva,j1_,j2_,j3_⟩:=Kd.R_form (HRa.out.rows (rA (.slice B8 c.f8.length d8) c.f8) (.tail _ (.tail _ (.tail _ (.tail _ (.tail _ (.tail _ (.tail _ (.tail _ (.tail _ (.tail _ (.tail _ (.head _))))))))))))) (show 0 < c.f8.length by omega)
             injection hva with e3 e4 e5
             subst e3
             clear e4 e5 j1_ j2_ j3_
             refine wp_normal' ?_
             refine start_ (n:=20) (S:=fun w' => w'.cell? ⟨bO,8,none⟩ = some (.slice (some ⟨ga,0,none⟩) c.f8.length d8) ∧ w'.cell? ⟨g16,0,none⟩ = some (.func (.func 40) #[] #[.pointer (some ⟨g7,0,none⟩)]) ∧ w'.cell? ⟨b1,8,none⟩ = some (.slice (some ad) c.f8.length c8) ∧ w'.cell? (ad.add (n * 3)) = some (.int .i64 x.f0) ∧ w'.cell? ⟨(ad.add (n * 3)).block,(ad.add (n * 3)).off + 1,none⟩ = some (.int .i64 x.f1) ∧ w'.cell? ⟨(ad.add (n * 3)).block,(ad.add (n * 3)).off + 2,none⟩ = some (.int .i64 x.f2)) (ds:=[19]) (Array.replicate 20 false) (by kernel_rfl) rfl rfl ⟨bC_ (bD_ HRa.out.bo) 8,HH.out⟩ (fun hHeld => ?_)
             have HRb:=A0_.mk (HRa.out.call (below_drew (Below.refl Wb.heap.size Wb)))
             clear HRa HH
             generalize Wb.drew = Wc at HRb hHeld ⊢
             refine pure_ (i:=0) (N:=some 182) (v:=?_) (a':=?_) (zA_ 20 1) rfl rfl (by kernel_rfl) (fun _ _ _ h => by cases h.1) (Or.inl ⟨by rfl,?_⟩) ?_ ?_
             rotate_left
             ·intro w'
              go_simp
              with_reducible rfl
             rotate_left
             ·simp only [Act.put,sA_,sB_,sC_]
              rfl
             refine take_ (i:=1) (N:=some 183) (v:=?_) (a':=?_) (zA_ 20 3) rfl rfl (by kernel_rfl) (fun _ _ _ h => by cases h.1) (Or.inl ⟨by rfl,?_⟩) hHeld ?_ ?_
             rotate_left
             ·intro w' s_
              obtain ⟨s0_,s1_,s2_,s3_,s4_,s5_⟩:=s_
              go_simp
              with_reducible rfl
             rotate_left
             ·simp only [Act.put,sA_,sB_,sC_]
              rfl
             refine pure_ (i:=2) (N:=some 184) (v:=?_) (a':=?_) (zA_ 20 7) rfl rfl (by kernel_rfl) (fun _ _ _ h => by cases h.1) (Or.inl ⟨by rfl,?_⟩) ?_ ?_
             rotate_left
             ·intro w'
              go_simp
              with_reducible rfl
             rotate_left
             ·simp only [Act.put,sA_,sB_,sC_]
              rfl
             refine take_ (i:=3) (N:=some 185) (v:=?_) (a':=?_) (zA_ 20 15) rfl rfl (by kernel_rfl) (fun _ _ _ h => by cases h.1) (Or.inl ⟨by rfl,?_⟩) hHeld ?_ ?_
             rotate_left
             ·intro w' s_
              obtain ⟨s0_,s1_,s2_,s3_,s4_,s5_⟩:=s_
              go_simp
              with_reducible rfl
             rotate_left
             ·simp only [Act.put,sA_,sB_,sC_]
              rfl
             refine pure_ (i:=4) (N:=some 186) (v:=?_) (a':=?_) (zA_ 20 31) rfl rfl (by kernel_rfl) (fun _ _ _ h => by cases h.1) (Or.inl ⟨by rfl,?_⟩) ?_ ?_
             rotate_left
             ·intro w'
              go_simp
              with_reducible rfl
             rotate_left
             ·simp only [Act.put,sA_,sB_,sC_]
              rfl
             refine take_ (i:=5) (N:=some 187) (v:=?_) (a':=?_) (zA_ 20 63) rfl rfl (by kernel_rfl) (fun _ _ _ h => by cases h.1) (Or.inl ⟨by rfl,?_⟩) hHeld ?_ ?_
             rotate_left
             ·intro w' s_
              obtain ⟨s0_,s1_,s2_,s3_,s4_,s5_⟩:=s_
              go_simp
              with_reducible rfl
             rotate_left
             ·simp only [Act.put,sA_,sB_,sC_]
              rfl
             refine pure_ (i:=6) (N:=some 188) (v:=?_) (a':=?_) (zA_ 20 127) rfl rfl (by kernel_rfl) (fun _ _ _ h => by cases h.1) (Or.inl ⟨by rfl,?_⟩) ?_ ?_
             rotate_left
             ·intro w'
              go_simp
              with_reducible rfl
             rotate_left
             ·simp only [Act.put,sA_,sB_,sC_]
              rfl
             refine pure_ (i:=7) (N:=some 189) (v:=?_) (a':=?_) (zA_ 20 255) rfl rfl (by kernel_rfl) (fun _ _ _ h => by cases h.1) (Or.inl ⟨by rfl,?_⟩) ?_ ?_
             rotate_left
             ·intro w'
              go_simp
              with_reducible rfl
             rotate_left
             ·simp only [Act.put,sA_,sB_,sC_]
              rfl
             refine pure_ (i:=8) (N:=some 190) (v:=?_) (a':=?_) (zA_ 20 511) rfl rfl (by kernel_rfl) (fun _ _ _ h => by cases h.1) (Or.inl ⟨by rfl,?_⟩) ?_ ?_
             rotate_left
             ·intro w'
              go_simp
              with_reducible rfl
             rotate_left
             ·simp only [Act.put,sA_,sB_,sC_]
              rfl
             refine take_ (i:=9) (N:=some 191) (v:=?_) (a':=?_) (zA_ 20 1023) rfl rfl (by kernel_rfl) (fun _ _ _ h => by cases h.1) (Or.inl ⟨by rfl,?_⟩) hHeld ?_ ?_
             rotate_left
             ·intro w' s_
              obtain ⟨s0_,s1_,s2_,s3_,s4_,s5_⟩:=s_
              go_simp
              with_reducible rfl
             rotate_left
             ·simp only [Act.put,sA_,sB_,sC_]
              rfl
             refine pure_ (i:=11) (N:=some 193) (v:=?_) (a':=?_) (zA_ 20 3071) rfl rfl (by kernel_rfl) (fun _ _ _ h => by cases h.1) (Or.inl ⟨by rfl,?_⟩) ?_ ?_
             rotate_left
             ·intro w'
              go_simp
              with_reducible rfl
             rotate_left
             ·simp only [Act.put,sA_,sB_,sC_]
              rfl
             refine pure_ (i:=12) (N:=some 194) (v:=?_) (a':=?_) (zA_ 20 7167) rfl rfl (by kernel_rfl) (fun _ _ _ h => by cases h.1) (Or.inl ⟨by rfl,?_⟩) ?_ ?_
             rotate_left
             ·intro w'
              go_simp
              with_reducible rfl
             rotate_left
             ·simp only [Act.put,sA_,sB_,sC_]
              rfl
             refine pure_ (i:=13) (N:=some 195) (v:=?_) (a':=?_) (zA_ 20 15359) rfl rfl (by kernel_rfl) (fun _ _ _ h => by cases h.1) (Or.inl ⟨by rfl,?_⟩) ?_ ?_
             rotate_left
             ·intro w'
              have hmx:=HMX.out
              go_simp
              with_reducible rfl
             rotate_left
             ·simp only [Act.put,sA_,sB_,sC_]
              rfl
             refine pure_ (i:=14) (N:=some 196) (v:=?_) (a':=?_) (zA_ 20 31743) rfl rfl (by kernel_rfl) (fun _ _ _ h => by cases h.1) (Or.inl ⟨by rfl,?_⟩) ?_ ?_
             rotate_left
             ·intro w'
              go_simp
              with_reducible rfl
             rotate_left
             ·simp only [Act.put,sA_,sB_,sC_]
              rfl
             refine pure_ (i:=15) (N:=some 197) (v:=?_) (a':=?_) (zA_ 20 64511) rfl rfl (by kernel_rfl) (fun _ _ _ h => by cases h.1) (Or.inl ⟨by rfl,?_⟩) ?_ ?_
             rotate_left
             ·intro w'
              go_simp
              with_reducible rfl
             rotate_left
             ·simp only [Act.put,sA_,sB_,sC_]
              rfl
             refine pure_ (i:=16) (N:=some 198) (v:=?_) (a':=?_) (zA_ 20 130047) rfl rfl (by kernel_rfl) (fun _ _ _ h => by cases h.1) (Or.inl ⟨by rfl,?_⟩) ?_ ?_
             rotate_left
             ·intro w'
              have hmn:=HMN.out
              go_simp
              with_reducible rfl
             rotate_left
             ·simp only [Act.put,sA_,sB_,sC_]
              rfl
             refine one_ (i:=10) (N:=some 192) (zA_ 20 131071) rfl rfl (by kernel_rfl) (by decide) (fun K hK => ?_)
             refine goesV_ (t:=185) Tryz.func40 (by kernel_rfl) rfl #[.int .i64 x.f0] #[.pointer (some ⟨g7,0,none⟩)] #[.int .i64 x.f0,.pointer (some ⟨g7,0,none⟩)] (by rfl) rfl rfl rfl (by (try simp only [List.map_toArray,List.map_cons,List.map_nil]);first|done|rfl) rfl ?_
             refine (lit_calls HRb.out.tt HNL.out x.f0 HX0.out.1 HX0.out.2).mono ?_
             rintro e Wd ⟨rfl,rfl⟩
             refine ⟨_,rfl,hK.out _ _ hHeld (fun hHeld2 => ?_)⟩
             clear hK K hHeld
             have hHeld:=hHeld2
             clear hHeld2
             refine norm_ (a':=?_) ?_ ?_
             rotate_left
             ·show Act.put _ (some 192) _ = _
              simp only [Act.put,sA_,sB_,sC_]
              rfl
             refine pure_ (i:=17) (N:=some 199) (v:=?_) (a':=?_) (zA_ 20 262143) rfl rfl (by kernel_rfl) (fun _ _ _ h => by cases h.1) (Or.inl ⟨by rfl,?_⟩) ?_ ?_
             rotate_left
             ·intro w'
              go_simp
              with_reducible rfl
             rotate_left
             ·simp only [Act.put,sA_,sB_,sC_]
              rfl
             refine pure_ (i:=18) (N:=some 200) (v:=?_) (a':=?_) (zA_ 20 524287) rfl rfl (by kernel_rfl) (fun _ _ _ h => by cases h.1) (Or.inl ⟨by rfl,?_⟩) ?_ ?_
             rotate_left
             ·intro w'
              go_simp
              with_reducible rfl
             rotate_left
             ·simp only [Act.put,sA_,sB_,sC_]
              rfl
             obtain ⟨r0,r1,r2,rz⟩:=rowA_at (HRb.out.rows (rA (.slice (some ⟨ga,0,none⟩) c.f8.length d8) c.f8) (.tail _ (.tail _ (.tail _ (.tail _ (.tail _ (.tail _ (.tail _ (.tail _ (.tail _ (.tail _ (.tail _ (.head _))))))))))))) n cn
             rw [HXE.out] at r0 r1 r2
             have z0:=rz (n * 3)
             have z1:=rz (n * 3 + 1)
             have z2:=rz (n * 3 + 2)
             have hse:=set3_self r0 r1 r2
             refine last_ (i:=19) (N:=none) (zA_ 20 1048575) rfl rfl (by kernel_rfl) (by decide) (fun K hK => ?_)
             refine skip_ (w1:=((Wd.setCell ⟨ga,n * 3,none⟩ (.int .i64 x.f0)).setCell ⟨ga,n * 3 + 1,none⟩ (.int .i64 x.f1)).setCell ⟨ga,n * 3 + 2,none⟩ (.int .i64 x.f2)) rfl rfl ?_ ?_
             ·go_simp
             rw [hse]
             clear r0 r1 r2 rz z0 z1 z2 hse
             have HRn:=HRb
             clear HRb
             refine hK.out _ _ ?_
             clear hK K
             clear hHeld
             refine done_ (by kernel_rfl) ?_
             refine ⟨rfl,?_⟩
             go_wp2
             repeat (go_quiet (fail);try go_wp2)
             go_roundg k1
             case measure => omega
             case rel => exact ⟨n + 1,rfl,⟨by have:=HKN.out;omega⟩,⟨by omega⟩,HRn⟩
            ·have cnb : decide ((n : Int) < (c.f8.length : Int)) = false:=decide_eq_false (by omega)
             have HRx:=HR
             clear HR HKN HNL2
             have HR:=HRx
             clear HRx
             go_upto_region 45 with (fail)
             have HXB:=A0_.mk (blk_below HX2b.out HR.out.below)
             have hne : bO ≠ b2:=by have:=HL2.out;have:=HR.out.l;omega
             have hne7 : g7 ≠ b2:=blk_ne HR.out.tt.c7 HXB.out (by decide)
             have HRa:=A0_.mk (HR.out.call (below_drew (Below.refl wr.heap.size wr)))
             have HXc:=A0_.mk (bD_ HXB.out)
             clear HR HXB
             refine wp_normal' ?_
             refine start_ (n:=5) (S:=fun w' => w'.heap[bO]? = some (.cells #[.int .i64 (N : Int),.slice (some ⟨q1,0,none⟩) c.f1.length c.f1.length,.slice B2 c.f2.length d2,.slice (some ⟨q3,0,none⟩) c.f3.length c.f3.length,.slice (some ⟨q4,0,none⟩) c.f4.length c.f4.length,.slice (some ⟨q5,0,none⟩) c.f5.length c.f5.length,.slice B6 c.f6.length d6,.slice (some ⟨q7,0,none⟩) c.f7.length c.f7.length,.slice B8 c.f8.length d8,.slice B9 c.f9.length d9,.slice B10 c.f10.length d10] 29 (0,0)) ∧ w'.cell? ⟨g7,0,none⟩ = some (.slice (some ⟨gT,0,none⟩) (N + 1) (N + 1))) (ds:=[]) (Array.replicate 5 false) (by kernel_rfl) rfl rfl ⟨HRa.out.bo,bC_ HRa.out.tt.c7 0⟩ (fun hHeld => ?_)
             generalize wr.drew = Wa at HRa HXc hHeld ⊢
             refine take_ (i:=0) (N:=some 202) (v:=?_) (a':=?_) (zA_ 5 1) rfl rfl (by kernel_rfl) (fun _ _ _ h => by cases h.1) (Or.inl ⟨by rfl,?_⟩) hHeld ?_ ?_
             rotate_left
             ·intro w' s_
              obtain ⟨sb_,s7_⟩:=s_
              have y0 : w'.cell? ⟨bO,0,none⟩ = some (.int .i64 (N : Int)):=bC_ sb_ 0
              have y1 : w'.cell? ⟨bO,1,none⟩ = some (.slice (some ⟨q1,0,none⟩) c.f1.length c.f1.length):=bC_ sb_ 1
              have y2 : w'.cell? ⟨bO,2,none⟩ = some (.slice B2 c.f2.length d2):=bC_ sb_ 2
              have y3 : w'.cell? ⟨bO,3,none⟩ = some (.slice (some ⟨q3,0,none⟩) c.f3.length c.f3.length):=bC_ sb_ 3
              have y4 : w'.cell? ⟨bO,4,none⟩ = some (.slice (some ⟨q4,0,none⟩) c.f4.length c.f4.length):=bC_ sb_ 4
              have y5 : w'.cell? ⟨bO,5,none⟩ = some (.slice (some ⟨q5,0,none⟩) c.f5.length c.f5.length):=bC_ sb_ 5
              have y6 : w'.cell? ⟨bO,6,none⟩ = some (.slice B6 c.f6.length d6):=bC_ sb_ 6
              have y7 : w'.cell? ⟨bO,7,none⟩ = some (.slice (some ⟨q7,0,none⟩) c.f7.length c.f7.length):=bC_ sb_ 7
              have y8 : w'.cell? ⟨bO,8,none⟩ = some (.slice B8 c.f8.length d8):=bC_ sb_ 8
              have y9 : w'.cell? ⟨bO,9,none⟩ = some (.slice B9 c.f9.length d9):=bC_ sb_ 9
              have y10 : w'.cell? ⟨bO,10,none⟩ = some (.slice B10 c.f10.length d10):=bC_ sb_ 10
              go_simp
              with_reducible rfl
             rotate_left
             ·simp only [Act.put,sA_,sB_,sC_]
              rfl
             refine take_ (i:=1) (N:=some 203) (v:=?_) (a':=?_) (zA_ 5 3) rfl rfl (by kernel_rfl) (fun _ _ _ h => by cases h.1) (Or.inl ⟨by rfl,?_⟩) hHeld ?_ ?_
             rotate_left
             ·intro w' s_
              obtain ⟨sb_,s7_⟩:=s_
              go_simp
              with_reducible rfl
             rotate_left
             ·simp only [Act.put,sA_,sB_,sC_]
              rfl
             have e0 : Wa.cell? ⟨b2,0,none⟩ = some (.int .i64 0):=bC_ HXc.out 0
             have e1 : Wa.cell? ⟨b2,1,none⟩ = some (.slice none 0 0):=bC_ HXc.out 1
             have e2 : Wa.cell? ⟨b2,2,none⟩ = some (.slice none 0 0):=bC_ HXc.out 2
             have e3 : Wa.cell? ⟨b2,3,none⟩ = some (.slice none 0 0):=bC_ HXc.out 3
             have e4 : Wa.cell? ⟨b2,4,none⟩ = some (.slice none 0 0):=bC_ HXc.out 4
             have e5 : Wa.cell? ⟨b2,5,none⟩ = some (.slice none 0 0):=bC_ HXc.out 5
             have e6 : Wa.cell? ⟨b2,6,none⟩ = some (.slice none 0 0):=bC_ HXc.out 6
             have e7 : Wa.cell? ⟨b2,7,none⟩ = some (.slice none 0 0):=bC_ HXc.out 7
             have e8 : Wa.cell? ⟨b2,8,none⟩ = some (.slice none 0 0):=bC_ HXc.out 8
             have e9 : Wa.cell? ⟨b2,9,none⟩ = some (.slice none 0 0):=bC_ HXc.out 9
             have e10 : Wa.cell? ⟨b2,10,none⟩ = some (.slice none 0 0):=bC_ HXc.out 10
             have g0_:=bF_ HXc.out 0
             have g1_:=bF_ HXc.out 1
             have g2_:=bF_ HXc.out 2
             have g3_:=bF_ HXc.out 3
             have g4_:=bF_ HXc.out 4
             have g5_:=bF_ HXc.out 5
             have g6_:=bF_ HXc.out 6
             have g7_:=bF_ HXc.out 7
             have g8_:=bF_ HXc.out 8
             have g9_:=bF_ HXc.out 9
             have g10_:=bF_ HXc.out 10
             refine one_ (i:=2) (N:=none) (zA_ 5 7) rfl rfl (by kernel_rfl) (by decide) (fun K hK => ?_)
             refine skip_ (w1:=(((((((((((Wa).setCell ⟨b2,0,none⟩ (.int .i64 (N : Int))).setCell ⟨b2,1,none⟩ (.slice (some ⟨q1,0,none⟩) c.f1.length c.f1.length)).setCell ⟨b2,2,none⟩ (.slice B2 c.f2.length d2)).setCell ⟨b2,3,none⟩ (.slice (some ⟨q3,0,none⟩) c.f3.length c.f3.length)).setCell ⟨b2,4,none⟩ (.slice (some ⟨q4,0,none⟩) c.f4.length c.f4.length)).setCell ⟨b2,5,none⟩ (.slice (some ⟨q5,0,none⟩) c.f5.length c.f5.length)).setCell ⟨b2,6,none⟩ (.slice B6 c.f6.length d6)).setCell ⟨b2,7,none⟩ (.slice (some ⟨q7,0,none⟩) c.f7.length c.f7.length)).setCell ⟨b2,8,none⟩ (.slice B8 c.f8.length d8)).setCell ⟨b2,9,none⟩ (.slice B9 c.f9.length d9)).setCell ⟨b2,10,none⟩ (.slice B10 c.f10.length d10)) rfl rfl ?_ ?_
             ·go_simp
             have hb11:=blk11 HXc.out (.int .i64 (N : Int)) (.slice (some ⟨q1,0,none⟩) c.f1.length c.f1.length) (.slice B2 c.f2.length d2) (.slice (some ⟨q3,0,none⟩) c.f3.length c.f3.length) (.slice (some ⟨q4,0,none⟩) c.f4.length c.f4.length) (.slice (some ⟨q5,0,none⟩) c.f5.length c.f5.length) (.slice B6 c.f6.length d6) (.slice (some ⟨q7,0,none⟩) c.f7.length c.f7.length) (.slice B8 c.f8.length d8) (.slice B9 c.f9.length d9) (.slice B10 c.f10.length d10)
             have hrows:=HRa.out.rows.set11 HXc.out (.int .i64 (N : Int)) (.slice (some ⟨q1,0,none⟩) c.f1.length c.f1.length) (.slice B2 c.f2.length d2) (.slice (some ⟨q3,0,none⟩) c.f3.length c.f3.length) (.slice (some ⟨q4,0,none⟩) c.f4.length c.f4.length) (.slice (some ⟨q5,0,none⟩) c.f5.length c.f5.length) (.slice B6 c.f6.length d6) (.slice (some ⟨q7,0,none⟩) c.f7.length c.f7.length) (.slice B8 c.f8.length d8) (.slice B9 c.f9.length d9) (.slice B10 c.f10.length d10)
             obtain ⟨rawsZ,hjz⟩:=HRa.out.just
             have hjz2:=hjz.set11 HXc.out HL2.out.1 (.int .i64 (N : Int)) (.slice (some ⟨q1,0,none⟩) c.f1.length c.f1.length) (.slice B2 c.f2.length d2) (.slice (some ⟨q3,0,none⟩) c.f3.length c.f3.length) (.slice (some ⟨q4,0,none⟩) c.f4.length c.f4.length) (.slice (some ⟨q5,0,none⟩) c.f5.length c.f5.length) (.slice B6 c.f6.length d6) (.slice (some ⟨q7,0,none⟩) c.f7.length c.f7.length) (.slice B8 c.f8.length d8) (.slice B9 c.f9.length d9) (.slice B10 c.f10.length d10)
             have hbel : Below w.heap.size w ((((((((((((Wa).setCell ⟨b2,0,none⟩ (.int .i64 (N : Int))).setCell ⟨b2,1,none⟩ (.slice (some ⟨q1,0,none⟩) c.f1.length c.f1.length)).setCell ⟨b2,2,none⟩ (.slice B2 c.f2.length d2)).setCell ⟨b2,3,none⟩ (.slice (some ⟨q3,0,none⟩) c.f3.length c.f3.length)).setCell ⟨b2,4,none⟩ (.slice (some ⟨q4,0,none⟩) c.f4.length c.f4.length)).setCell ⟨b2,5,none⟩ (.slice (some ⟨q5,0,none⟩) c.f5.length c.f5.length)).setCell ⟨b2,6,none⟩ (.slice B6 c.f6.length d6)).setCell ⟨b2,7,none⟩ (.slice (some ⟨q7,0,none⟩) c.f7.length c.f7.length)).setCell ⟨b2,8,none⟩ (.slice B8 c.f8.length d8)).setCell ⟨b2,9,none⟩ (.slice B9 c.f9.length d9)).setCell ⟨b2,10,none⟩ (.slice B10 c.f10.length d10)):=below11 (HB1.out.trans (lower_ HB1.out.size HRa.out.below)) HL2.out.1 (.int .i64 (N : Int)) (.slice (some ⟨q1,0,none⟩) c.f1.length c.f1.length) (.slice B2 c.f2.length d2) (.slice (some ⟨q3,0,none⟩) c.f3.length c.f3.length) (.slice (some ⟨q4,0,none⟩) c.f4.length c.f4.length) (.slice (some ⟨q5,0,none⟩) c.f5.length c.f5.length) (.slice B6 c.f6.length d6) (.slice (some ⟨q7,0,none⟩) c.f7.length c.f7.length) (.slice B8 c.f8.length d8) (.slice B9 c.f9.length d9) (.slice B10 c.f10.length d10)
             have hsO:=far11 HRa.out.bo hne (.int .i64 (N : Int)) (.slice (some ⟨q1,0,none⟩) c.f1.length c.f1.length) (.slice B2 c.f2.length d2) (.slice (some ⟨q3,0,none⟩) c.f3.length c.f3.length) (.slice (some ⟨q4,0,none⟩) c.f4.length c.f4.length) (.slice (some ⟨q5,0,none⟩) c.f5.length c.f5.length) (.slice B6 c.f6.length d6) (.slice (some ⟨q7,0,none⟩) c.f7.length c.f7.length) (.slice B8 c.f8.length d8) (.slice B9 c.f9.length d9) (.slice B10 c.f10.length d10)
             have hs7:=bC_ (far11 HRa.out.tt.c7 hne7 (.int .i64 (N : Int)) (.slice (some ⟨q1,0,none⟩) c.f1.length c.f1.length) (.slice B2 c.f2.length d2) (.slice (some ⟨q3,0,none⟩) c.f3.length c.f3.length) (.slice (some ⟨q4,0,none⟩) c.f4.length c.f4.length) (.slice (some ⟨q5,0,none⟩) c.f5.length c.f5.length) (.slice B6 c.f6.length d6) (.slice (some ⟨q7,0,none⟩) c.f7.length c.f7.length) (.slice B8 c.f8.length d8) (.slice B9 c.f9.length d9) (.slice B10 c.f10.length d10)) 0
             clear e0 g0_ e1 g1_ e2 g2_ e3 g3_ e4 g4_ e5 g5_ e6 g6_ e7 g7_ e8 g8_ e9 g9_ e10 g10_
             clear HRa HXc hjz
             refine hK.out _ _ ⟨hsO,hs7⟩ (fun hHeld2 => ?_)
             clear hK K hHeld
             have hHeld:=hHeld2
             clear hHeld2
             clear hsO hs7
             generalize (((((((((((Wa).setCell ⟨b2,0,none⟩ (.int .i64 (N : Int))).setCell ⟨b2,1,none⟩ (.slice (some ⟨q1,0,none⟩) c.f1.length c.f1.length)).setCell ⟨b2,2,none⟩ (.slice B2 c.f2.length d2)).setCell ⟨b2,3,none⟩ (.slice (some ⟨q3,0,none⟩) c.f3.length c.f3.length)).setCell ⟨b2,4,none⟩ (.slice (some ⟨q4,0,none⟩) c.f4.length c.f4.length)).setCell ⟨b2,5,none⟩ (.slice (some ⟨q5,0,none⟩) c.f5.length c.f5.length)).setCell ⟨b2,6,none⟩ (.slice B6 c.f6.length d6)).setCell ⟨b2,7,none⟩ (.slice (some ⟨q7,0,none⟩) c.f7.length c.f7.length)).setCell ⟨b2,8,none⟩ (.slice B8 c.f8.length d8)).setCell ⟨b2,9,none⟩ (.slice B9 c.f9.length d9)).setCell ⟨b2,10,none⟩ (.slice B10 c.f10.length d10) = WZ at hb11 hrows hjz2 hbel hHeld ⊢
             refine pure_ (i:=3) (N:=some 3) (v:=?_) (a':=?_) (zA_ 5 15) rfl rfl (by kernel_rfl) (fun _ _ _ h => by cases h.1) (Or.inl ⟨by rfl,?_⟩) ?_ ?_
             rotate_left
             ·intro w'
              go_simp
              with_reducible rfl
             rotate_left
             ·simp only [Act.put,sA_,sB_,sC_]
              rfl
             refine pure_ (i:=4) (N:=some 4) (v:=?_) (a':=?_) (zA_ 5 31) rfl rfl (by kernel_rfl) (fun _ _ _ h => by cases h.1) (Or.inl ⟨by rfl,?_⟩) ?_ ?_
             rotate_left
             ·intro w'
              go_simp
              with_reducible rfl
             rotate_left
             ·simp only [Act.put,sA_,sB_,sC_]
              rfl
             clear hHeld
             refine done_ (by kernel_rfl) ?_
             refine ⟨rfl,?_⟩
             rename_i hKK
             refine hKK _ _ ?_
             clear hKK
             (try go_wp2)
             (try show bodyPost _ _ _ _ _ _)
             refine bodyPost_ret (results_ctt rfl _ _ b2 29 _ (0,0) _ rfl hb11 Tryz.underlying29 rfl info65s) rfl ?_
             (try rw [← HN.out])
             refine ⟨⟨some ⟨q1,0,none⟩,B2,some ⟨q3,0,none⟩,some ⟨q4,0,none⟩,some ⟨q5,0,none⟩,B6,some ⟨q7,0,none⟩,B8,B9,B10,c.f1.length,d2,c.f3.length,c.f4.length,c.f5.length,d6,c.f7.length,d8,d9,d10⟩,_,rfl,?_,hbel⟩
             exact ⟨(Kd.R_reads' (hrows (rI (.slice (some ⟨q1,0,none⟩) c.f1.length c.f1.length) c.f1) (.tail _ (.tail _ (.tail _ (.tail _ (.head _))))))).2.2,(Kd.R_reads' (hrows (rL (.slice B2 c.f2.length d2) c.f2) (.tail _ (.tail _ (.tail _ (.tail _ (.tail _ (.tail _ (.head _))))))))).2.2,(Kd.R_reads' (hrows (rI (.slice (some ⟨q3,0,none⟩) c.f3.length c.f3.length) c.f3) (.tail _ (.tail _ (.tail _ (.head _)))))).2.2,(Kd.R_reads' (hrows (rI (.slice (some ⟨q4,0,none⟩) c.f4.length c.f4.length) c.f4) (.tail _ (.tail _ (.head _))))).2.2,(Kd.R_reads' (hrows (rI (.slice (some ⟨q5,0,none⟩) c.f5.length c.f5.length) c.f5) (.tail _ (.head _)))).2.2,hjz2.reads,(Kd.R_reads' (hrows (rI (.slice (some ⟨q7,0,none⟩) c.f7.length c.f7.length) c.f7) (.head _))).2.2,(Kd.R_reads' (hrows (rA (.slice B8 c.f8.length d8) c.f8) (.tail _ (.tail _ (.tail _ (.tail _ (.tail _ (.tail _ (.tail _ (.tail _ (.tail _ (.tail _ (.tail _ (.head _)))))))))))))).2.2,(Kd.R_reads' (hrows (rS (.slice B9 c.f9.length d9) c.f9) (.tail _ (.tail _ (.tail _ (.tail _ (.tail _ (.tail _ (.tail _ (.tail _ (.tail _ (.tail _ (.tail _ (.tail _ (.head _))))))))))))))).2.2,(Kd.R_reads' (hrows (rT (.slice B10 c.f10.length d10) c.f10) (.tail _ (.tail _ (.tail _ (.tail _ (.tail _ (.tail _ (.tail _ (.tail _ (.tail _ (.tail _ (.tail _ (.tail _ (.tail _ (.head _)))))))))))))))).2.2⟩
end Go.Proofs.YtdmngdohlobogaaGreatDoor.Asc

