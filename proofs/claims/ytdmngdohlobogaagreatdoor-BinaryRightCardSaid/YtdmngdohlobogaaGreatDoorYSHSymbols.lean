import Derived.Test.YtdmngdohlobogaaGreatDoorYSHSizes
import Derived.Test.YtdmngdohlobogaaGreatDoorYMap175
namespace Go.Proofs.YtdmngdohlobogaaGreatDoor.Asc
open Go Go.RowKit Go.MapKept Go.Proofs.YtdmngdohlobogaaGreatDoorW.PrintWords Go.Proofs.YtdmngdohlobogaaGreatDoorW.PrintLast Go.Proofs.YtdmngdohlobogaaGreatDoorW.PrintMore
set_option linter.unusedVariables false
set_option linter.unusedSimpArgs false
def manyF (c : S65) (k : Int) : Int:=if k = 105 then c.f1.length else if k = 108 then c.f2.length else if k = 111 then c.f3.length else if k = 98 then c.f4.length else if k = 99 then c.f5.length else if k = 106 then c.f6.length else if k = 102 then c.f7.length else -1
theorem many_f (c : S65) (k : Int) : shape_many.f c.f0 c.f1 c.f2 c.f3 c.f4 c.f5 c.f6 c.f7 c.f8 c.f9 c.f10 k = some (manyF c k):=by
 unfold shape_many.f manyF
 repeat' split
 all_goals rfl
def symBad (c : S65) (seen : List S40) (s : S59) : Bool :=
 decide (s.f1 < 0) || decide (s.f1 ≥ manyF c s.f0) || decide (s.f2.size = 0) || decide (s.f2.size > 64) || seen.any (same175 ⟨s.f0,s.f1⟩) || s.f2.data.toList.any (fun x => decide (x.toNat < 32))
def symbolsF (c : S65) : List S59 → Nat → List S40 → Int
 |[],_,_ => -1
 |s :: ss,i,seen => if symBad c seen s = true then (i : Int) else symbolsF c ss (i + 1) (seen ++ [⟨s.f0,s.f1⟩])
theorem heap_put {w : World} {r : Nat} {o o' : Obj} (hb : w.heap[r]? = some o) : (w.putObj r o').heap[r]? = some o' ∧ ∀ r',r' ≠ r → (w.putObj r o').heap[r']? = w.heap[r']?:=MapKept.heap_set hb
theorem ByteArray.length_toList_data_ (s : ByteArray) : s.data.toList.length = s.size:=by simp
theorem C_sym_get {w : World} {A : Option Addr} {xs : List S59} (h : Kd.C k59 w A xs.length xs) (n : Nat) (hn : n < xs.length) : ∃ ad,A = some ad ∧ w.cell? (ad.add (n * 3)) = some (.int .u8 xs[n].f0) ∧ w.cell? ⟨(ad.add (n * 3)).block,(ad.add (n * 3)).off + 1,none⟩ = some (.int .i64 xs[n].f1) ∧ w.cell? ⟨(ad.add (n * 3)).block,(ad.add (n * 3)).off + 2,none⟩ = some (.string xs[n].f2):=by
 have:=at_T59 h (n : Int) (by omega) (by omega)
 simpa [rd_T59,hn] using this
structure Caps (c : S65) (a : CA) : Prop where
 k1 : c.f1.length ≤ a.c1
 k2 : c.f2.length ≤ a.c2
 k3 : c.f3.length ≤ a.c3
 k4 : c.f4.length ≤ a.c4
 k5 : c.f5.length ≤ a.c5
 k6 : c.f6.length ≤ a.c6
 k7 : c.f7.length ≤ a.c7
 k8 : c.f8.length ≤ a.c8
 k9 : c.f9.length ≤ a.c9
 k10 : c.f10.length ≤ a.c10
set_option maxHeartbeats 8000000 in
set_option maxRecDepth 100000 in
theorem symbols_calls {c : S65} {a : CA} {w : World} (hC : CR w c a) (hK : Caps c a) (hl : c.f9.length ≤ 16384) :
  Calls Tryz.prog 88 #[.agg (cellsC c a)] w fun e w' => e = .returned (.int .i64 (symbolsF c c.f9 0 [])) ∧ Below w.heap.size w w':=by
 obtain ⟨A1,A2,A3,A4,A5,A6,A7,A8,A9,A10,c1,c2,c3,c4,c5,c6,c7,c8,c9,c10⟩:=a
 have hu65:=Tryz.underlying29
 have hu59:=Tryz.underlying77
 have hu175:=Tryz.underlying159
 have hmm:=@run_makeMap Tryz.prog
 obtain ⟨R,hR⟩ : ∃ R,symbolsF c c.f9 0 [] = R:=⟨_,rfl⟩
 rw [hR]
 have HC:=A0_.mk hC
 have HCAP:=A0_.mk hK
 have HL:=A0_.mk hl
 have HR:=A0_.mk hR
 clear hC hK hl hR
 show Calls Tryz.prog 88 #[.agg #[.int .i64 c.f0,.slice A1 c.f1.length c1,.slice A2 c.f2.length c2,.slice A3 c.f3.length c3,.slice A4 c.f4.length c4,.slice A5 c.f5.length c5,.slice A6 c.f6.length c6,.slice A7 c.f7.length c7,.slice A8 c.f8.length c8,.slice A9 c.f9.length c9,.slice A10 c.f10.length c10]] w _
 go_enter Tryz.func88,Tryz.ntmps88
 go_wp2
 repeat (go_quiet (fail);try go_wp2)
 have hg1 : ((w.alloc (.cells #[.int .i64 c.f0,.slice A1 c.f1.length c1,.slice A2 c.f2.length c2,.slice A3 c.f3.length c3,.slice A4 c.f4.length c4,.slice A5 c.f5.length c5,.slice A6 c.f6.length c6,.slice A7 c.f7.length c7,.slice A8 c.f8.length c8,.slice A9 c.f9.length c9,.slice A10 c.f10.length c10] 29)).alloc (.map #[] 0)).heap[w.heap.size]? = some (.cells #[.int .i64 c.f0,.slice A1 c.f1.length c1,.slice A2 c.f2.length c2,.slice A3 c.f3.length c3,.slice A4 c.f4.length c4,.slice A5 c.f5.length c5,.slice A6 c.f6.length c6,.slice A7 c.f7.length c7,.slice A8 c.f8.length c8,.slice A9 c.f9.length c9,.slice A10 c.f10.length c10] 29 (0,0)):=bA_ (blk_new w _) _
 have hg2 : ((w.alloc (.cells #[.int .i64 c.f0,.slice A1 c.f1.length c1,.slice A2 c.f2.length c2,.slice A3 c.f3.length c3,.slice A4 c.f4.length c4,.slice A5 c.f5.length c5,.slice A6 c.f6.length c6,.slice A7 c.f7.length c7,.slice A8 c.f8.length c8,.slice A9 c.f9.length c9,.slice A10 c.f10.length c10] 29)).alloc (.map #[] 0)).heap[w.heap.size + 1]? = some (.map (esOf []) 0):=by
  have h:=World.alloc_heap_new (w.alloc (.cells #[.int .i64 c.f0,.slice A1 c.f1.length c1,.slice A2 c.f2.length c2,.slice A3 c.f3.length c3,.slice A4 c.f4.length c4,.slice A5 c.f5.length c5,.slice A6 c.f6.length c6,.slice A7 c.f7.length c7,.slice A8 c.f8.length c8,.slice A9 c.f9.length c9,.slice A10 c.f10.length c10] 29)) (.map #[] 0)
  rw [World.size_alloc] at h
  exact h
 have hbw : Below w.heap.size w ((w.alloc (.cells #[.int .i64 c.f0,.slice A1 c.f1.length c1,.slice A2 c.f2.length c2,.slice A3 c.f3.length c3,.slice A4 c.f4.length c4,.slice A5 c.f5.length c5,.slice A6 c.f6.length c6,.slice A7 c.f7.length c7,.slice A8 c.f8.length c8,.slice A9 c.f9.length c9,.slice A10 c.f10.length c10] 29)).alloc (.map #[] 0)):=eA_ (eA_ (Below.refl _ _) _) _
 have HG1:=A0_.mk hg1
 have HG2:=A0_.mk hg2
 have HBW:=A0_.mk hbw
 clear hg1 hg2 hbw
 (try simp only [Act.put,sA_,sB_,sC_])
 go_loopg [11] (c.f9.length + 1) (fun kq v w' => ∃ (n : Nat),v = .int .i64 n ∧ A0_ (n + kq = c.f9.length + 1) ∧ A0_ (n ≤ c.f9.length) ∧ A0_ (symbolsF c (c.f9.drop n) n ((c.f9.take n).map fun s => ⟨s.f0,s.f1⟩) = R) ∧ A0_ (w'.heap[w.heap.size]? = some (.cells #[.int .i64 c.f0,.slice A1 c.f1.length c1,.slice A2 c.f2.length c2,.slice A3 c.f3.length c3,.slice A4 c.f4.length c4,.slice A5 c.f5.length c5,.slice A6 c.f6.length c6,.slice A7 c.f7.length c7,.slice A8 c.f8.length c8,.slice A9 c.f9.length c9,.slice A10 c.f10.length c10] 29 (0,0))) ∧ A0_ (w'.heap[w.heap.size + 1]? = some (.map (esOf ((c.f9.take n).map fun s => ⟨s.f0,s.f1⟩)) n)) ∧ A0_ (Below w.heap.size w w'))
 case atStart => exact ⟨0,rfl,⟨by omega⟩,⟨Nat.zero_le _⟩,HR,HG1,HG2,HBW⟩
 case round =>
  clear HR HG1 HG2 HBW
  obtain ⟨n,rfl,HK,HNL,HR,HG1,HG2,HB⟩:=hrel
  cases gk with
  |zero =>
   have h1:=HK.out
   have h2:=HNL.out
   omega
  |succ k1 =>
   by_cases cn : n < c.f9.length
   ·have cnb : decide ((n : Int) < (c.f9.length : Int)) = true:=decide_eq_true (by omega)
    have p0 : (0 ≤ (n : Int)) = True:=eq_true (by omega)
    have p1 : ((n : Int) < (c.f9.length : Int)) = True:=eq_true (by omega)
    have hw1 : IntKind.i64.wrap ((n : Int) + 1) = ((n + 1 : Nat) : Int):=by have:=HL.out;rw [IntKind.wrap_i64];omega
    obtain ⟨ad,ea,hx0,hx1,hx2⟩:=C_sym_get (HC.out.below HB.out).r9 n cn
    cases ea
    have hdrop : c.f9.drop n = c.f9[n] :: c.f9.drop (n + 1):=List.drop_eq_getElem_cons cn
    have htake : (c.f9.take (n + 1)).map (fun s => (⟨s.f0,s.f1⟩ : S40)) = (c.f9.take n).map (fun s => (⟨s.f0,s.f1⟩ : S40)) ++ [⟨c.f9[n].f0,c.f9[n].f1⟩]:=by rw [List.take_succ_eq_append_getElem cn,List.map_append];rfl
    have hlen : ((c.f9.take n).map (fun s => (⟨s.f0,s.f1⟩ : S40))).length = n:=by simp;omega
    have hr:=HR.out
    rw [hdrop,symbolsF] at hr
    clear HR hdrop
    have HTK:=A0_.mk htake
    have HLN:=A0_.mk hlen
    clear htake hlen
    generalize c.f9[n] = x at hr hx0 hx1 hx2 HTK
    obtain ⟨k,at_,nm⟩:=x
    dsimp only at hr hx0 hx1 hx2
    generalize hseen : (c.f9.take n).map (fun s => (⟨s.f0,s.f1⟩ : S40)) = seen at hr HTK HLN HG2
    have HSEEN:=A0_.mk hseen
    clear hseen
    go_upto_region 5 with (fail)
    have hc1 : (wr.alloc (.cells #[.int .u8 k,.int .i64 at_,.string nm] 77)).heap[w.heap.size]? = some (.cells #[.int .i64 c.f0,.slice A1 c.f1.length c1,.slice A2 c.f2.length c2,.slice A3 c.f3.length c3,.slice A4 c.f4.length c4,.slice A5 c.f5.length c5,.slice A6 c.f6.length c6,.slice A7 c.f7.length c7,.slice A8 c.f8.length c8,.slice (some ad) c.f9.length c9,.slice A10 c.f10.length c10] 29 (0,0)):=bA_ HG1.out _
    have hb0 : Below wr.heap.size wr (wr.alloc (.cells #[.int .u8 k,.int .i64 at_,.string nm] 77)):=eA_ (Below.refl _ _) _
    have hc2 : (wr.alloc (.cells #[.int .u8 k,.int .i64 at_,.string nm] 77)).heap[w.heap.size + 1]? = some (.map (esOf seen) n):=(hb0.block _ (Array.getElem?_eq_some_iff.1 HG2.out).1).trans HG2.out
    have hc8 : (wr.alloc (.cells #[.int .u8 k,.int .i64 at_,.string nm] 77)).heap[wr.heap.size]? = some (.cells #[.int .u8 k,.int .i64 at_,.string nm] 77 (0,0)):=blk_new wr _
    have hb8 : Below w.heap.size w (wr.alloc (.cells #[.int .u8 k,.int .i64 at_,.string nm] 77)):=eA_ HB.out _
    have hlt8 : w.heap.size + 1 < wr.heap.size:=(Array.getElem?_eq_some_iff.1 HG2.out).1
    clear HG1 HG2 HB hb0 hx0 hx1 hx2 p0 p1
    generalize wr.heap.size = g8 at hc8 hlt8 ⊢
    generalize wr.alloc (.cells #[.int .u8 k,.int .i64 at_,.string nm] 77) = w8 at hc1 hc2 hc8 hb8 ⊢
    have HC1:=A0_.mk hc1
    have HC2:=A0_.mk hc2
    have HC8:=A0_.mk hc8
    have HB8:=A0_.mk hb8
    have HLT:=A0_.mk hlt8
    have HLK : A0_ (∀ W : World,W.heap[w.heap.size + 1]? = some (.map (esOf seen) n) → (Instr.lookup 156 (.map (some (w.heap.size + 1))) (.agg #[.int .u8 k,.int .i64 at_]) false).run Tryz.prog W = .ok (.int .i64 (if seen.any (same175 ⟨k,at_⟩) then 1 else 0)) W):=⟨fun W hW => lookup175 ⟨k,at_⟩ W _ n seen hW⟩
    clear hc1 hc2 hc8 hb8 hlt8
    by_cases u1 : at_ < 0
    ·have hb : symBad c seen ⟨k,at_,nm⟩ = true:=by simp [symBad,u1]
     rw [if_pos hb] at hr
     subst hr
     have u1b : decide (at_ < 0) = true:=decide_eq_true u1
     clear hb u1
     refine wp_normal' ?_
     refine start_ (n:=33) (S:=fun w' => w'.heap[w.heap.size]? = some (.cells #[.int .i64 c.f0,.slice A1 c.f1.length c1,.slice A2 c.f2.length c2,.slice A3 c.f3.length c3,.slice A4 c.f4.length c4,.slice A5 c.f5.length c5,.slice A6 c.f6.length c6,.slice A7 c.f7.length c7,.slice A8 c.f8.length c8,.slice (some ad) c.f9.length c9,.slice A10 c.f10.length c10] 29 (0,0)) ∧ w'.heap[g8]? = some (.cells #[.int .u8 k,.int .i64 at_,.string nm] 77 (0,0)) ∧ w'.heap[w.heap.size + 1]? = some (.map (esOf seen) n) ∧ Below w.heap.size w w') (ds:=[]) (Array.replicate 33 false) (by kernel_rfl) rfl rfl ⟨HC1.out,HC8.out,HC2.out,below_drew HB8.out⟩ (fun hHeld => ?_)
     refine pure_ (i:=0) (N:=some 16) (v:=?_) (a':=?_) (zA_ 33 1) rfl rfl (by kernel_rfl) (fun _ _ _ h => by cases h.1) (Or.inl ⟨by rfl,?_⟩) ?_ ?_
     rotate_left
     ·intro w'
      go_simp
      with_reducible rfl
     rotate_left
     ·simp only [Act.put,sA_,sB_,sC_]
      rfl
     refine take_ (i:=1) (N:=some 17) (v:=?_) (a':=?_) (zA_ 33 3) rfl rfl (by kernel_rfl) (fun _ _ _ h => by cases h.1) (Or.inl ⟨by rfl,?_⟩) hHeld ?_ ?_
     rotate_left
     ·intro w' s_
      obtain ⟨s0_,s1,s2,s3⟩:=s_
      have y0 : w'.cell? ⟨g8,0,none⟩ = some (.int .u8 k):=(bC_ s1 0).trans rfl
      have y1 : w'.cell? ⟨g8,1,none⟩ = some (.int .i64 at_):=(bC_ s1 1).trans rfl
      have y2 : w'.cell? ⟨g8,2,none⟩ = some (.string nm):=(bC_ s1 2).trans rfl
      go_simp
      with_reducible rfl
     rotate_left
     ·simp only [Act.put,sA_,sB_,sC_]
      rfl
     refine pure_ (i:=2) (N:=some 18) (v:=?_) (a':=?_) (zA_ 33 7) rfl rfl (by kernel_rfl) (fun _ _ _ h => by cases h.1) (Or.inl ⟨by rfl,?_⟩) ?_ ?_
     rotate_left
     ·intro w'
      go_simp
      with_reducible rfl
     rotate_left
     ·simp only [Act.put,sA_,sB_,sC_]
      rfl
     refine pure_ (i:=3) (N:=some 19) (v:=?_) (a':=?_) (zA_ 33 15) rfl rfl (by kernel_rfl) (fun _ _ _ h => by cases h.1) (Or.inl ⟨by rfl,?_⟩) ?_ ?_
     rotate_left
     ·intro w'
      go_simp
      with_reducible rfl
     rotate_left
     ·simp only [Act.put,sA_,sB_,sC_]
      rfl
     refine pure_ (i:=4) (N:=some 20) (v:=undef) (a':=?_) (zA_ 33 31) rfl rfl (by kernel_rfl) (fun _ _ _ h => by cases h.1) (Or.inr ⟨by rfl,rfl⟩) ?_ ?_
     rotate_left
     ·simp only [Act.put,sA_,sB_,sC_]
      rfl
     refine pure_ (i:=5) (N:=some 21) (v:=undef) (a':=?_) (zA_ 33 63) rfl rfl (by kernel_rfl) (fun _ _ _ h => by cases h.1) (Or.inr ⟨by rfl,rfl⟩) ?_ ?_
     rotate_left
     ·simp only [Act.put,sA_,sB_,sC_]
      rfl
     refine pure_ (i:=6) (N:=some 22) (v:=undef) (a':=?_) (zA_ 33 127) rfl rfl (by kernel_rfl) (fun _ _ _ h => by cases h.1) (Or.inr ⟨by rfl,rfl⟩) ?_ ?_
     rotate_left
     ·simp only [Act.put,sA_,sB_,sC_]
      rfl
     refine pure_ (i:=7) (N:=some 23) (v:=undef) (a':=?_) (zA_ 33 255) rfl rfl (by kernel_rfl) (fun _ _ _ h => by cases h.1) (Or.inr ⟨by rfl,rfl⟩) ?_ ?_
     rotate_left
     ·simp only [Act.put,sA_,sB_,sC_]
      rfl
     refine pure_ (i:=8) (N:=some 24) (v:=undef) (a':=?_) (zA_ 33 511) rfl rfl (by kernel_rfl) (fun _ _ _ h => by cases h.1) (Or.inr ⟨by rfl,rfl⟩) ?_ ?_
     rotate_left
     ·simp only [Act.put,sA_,sB_,sC_]
      rfl
     refine pure_ (i:=9) (N:=some 25) (v:=undef) (a':=?_) (zA_ 33 1023) rfl rfl (by kernel_rfl) (fun _ _ _ h => by cases h.1) (Or.inr ⟨by rfl,rfl⟩) ?_ ?_
     rotate_left
     ·simp only [Act.put,sA_,sB_,sC_]
      rfl
     refine pure_ (i:=10) (N:=some 26) (v:=undef) (a':=?_) (zA_ 33 2047) rfl rfl (by kernel_rfl) (fun _ _ _ h => by cases h.1) (Or.inr ⟨by rfl,rfl⟩) ?_ ?_
     rotate_left
     ·simp only [Act.put,sA_,sB_,sC_]
      rfl
     refine pure_ (i:=11) (N:=some 27) (v:=?_) (a':=?_) (zA_ 33 4095) rfl rfl (by kernel_rfl) (fun _ _ _ h => by cases h.1) (Or.inl ⟨by rfl,?_⟩) ?_ ?_
     rotate_left
     ·intro w'
      go_simp
      with_reducible rfl
     rotate_left
     ·simp only [Act.put,sA_,sB_,sC_]
      rfl
     refine pure_ (i:=12) (N:=some 28) (v:=?_) (a':=?_) (zA_ 33 8191) rfl rfl (by kernel_rfl) (fun _ _ _ h => by cases h.1) (Or.inl ⟨by rfl,?_⟩) ?_ ?_
     rotate_left
     ·intro w'
      go_simp
      with_reducible rfl
     rotate_left
     ·simp only [Act.put,sA_,sB_,sC_]
      rfl
     refine pure_ (i:=13) (N:=some 29) (v:=undef) (a':=?_) (zA_ 33 16383) rfl rfl (by kernel_rfl) (fun _ _ _ h => by cases h.1) (Or.inr ⟨by rfl,rfl⟩) ?_ ?_
     rotate_left
     ·simp only [Act.put,sA_,sB_,sC_]
      rfl
     refine pure_ (i:=14) (N:=some 30) (v:=undef) (a':=?_) (zA_ 33 32767) rfl rfl (by kernel_rfl) (fun _ _ _ h => by cases h.1) (Or.inr ⟨by rfl,rfl⟩) ?_ ?_
     rotate_left
     ·simp only [Act.put,sA_,sB_,sC_]
      rfl
     refine pure_ (i:=15) (N:=some 31) (v:=undef) (a':=?_) (zA_ 33 65535) rfl rfl (by kernel_rfl) (fun _ _ _ h => by cases h.1) (Or.inr ⟨by rfl,rfl⟩) ?_ ?_
     rotate_left
     ·simp only [Act.put,sA_,sB_,sC_]
      rfl
     refine pure_ (i:=16) (N:=some 32) (v:=?_) (a':=?_) (zA_ 33 131071) rfl rfl (by kernel_rfl) (fun _ _ _ h => by cases h.1) (Or.inl ⟨by rfl,?_⟩) ?_ ?_
     rotate_left
     ·intro w'
      go_simp
      with_reducible rfl
     rotate_left
     ·simp only [Act.put,sA_,sB_,sC_]
      rfl
     refine pure_ (i:=17) (N:=some 33) (v:=?_) (a':=?_) (zA_ 33 262143) rfl rfl (by kernel_rfl) (fun _ _ _ h => by cases h.1) (Or.inl ⟨by rfl,?_⟩) ?_ ?_
     rotate_left
     ·intro w'
      go_simp
      with_reducible rfl
     rotate_left
     ·simp only [Act.put,sA_,sB_,sC_]
      rfl
     refine pure_ (i:=18) (N:=some 34) (v:=undef) (a':=?_) (zA_ 33 524287) rfl rfl (by kernel_rfl) (fun _ _ _ h => by cases h.1) (Or.inr ⟨by rfl,rfl⟩) ?_ ?_
     rotate_left
     ·simp only [Act.put,sA_,sB_,sC_]
      rfl
     refine pure_ (i:=19) (N:=some 35) (v:=undef) (a':=?_) (zA_ 33 1048575) rfl rfl (by kernel_rfl) (fun _ _ _ h => by cases h.1) (Or.inr ⟨by rfl,rfl⟩) ?_ ?_
     rotate_left
     ·simp only [Act.put,sA_,sB_,sC_]
      rfl
     refine pure_ (i:=20) (N:=some 36) (v:=undef) (a':=?_) (zA_ 33 2097151) rfl rfl (by kernel_rfl) (fun _ _ _ h => by cases h.1) (Or.inr ⟨by rfl,rfl⟩) ?_ ?_
     rotate_left
     ·simp only [Act.put,sA_,sB_,sC_]
      rfl
     refine pure_ (i:=21) (N:=some 37) (v:=undef) (a':=?_) (zA_ 33 4194303) rfl rfl (by kernel_rfl) (fun _ _ _ h => by cases h.1) (Or.inr ⟨by rfl,rfl⟩) ?_ ?_
     rotate_left
     ·simp only [Act.put,sA_,sB_,sC_]
      rfl
     refine pure_ (i:=22) (N:=some 38) (v:=?_) (a':=?_) (zA_ 33 8388607) rfl rfl (by kernel_rfl) (fun _ _ _ h => by cases h.1) (Or.inl ⟨by rfl,?_⟩) ?_ ?_
     rotate_left
     ·intro w'
      go_simp
      with_reducible rfl
     rotate_left
     ·simp only [Act.put,sA_,sB_,sC_]
      rfl
     refine pure_ (i:=23) (N:=some 39) (v:=?_) (a':=?_) (zA_ 33 16777215) rfl rfl (by kernel_rfl) (fun _ _ _ h => by cases h.1) (Or.inl ⟨by rfl,?_⟩) ?_ ?_
     rotate_left
     ·intro w'
      go_simp
      with_reducible rfl
     rotate_left
     ·simp only [Act.put,sA_,sB_,sC_]
      rfl
     refine pure_ (i:=24) (N:=some 40) (v:=undef) (a':=?_) (zA_ 33 33554431) rfl rfl (by kernel_rfl) (fun _ _ _ h => by cases h.1) (Or.inr ⟨by rfl,rfl⟩) ?_ ?_
     rotate_left
     ·simp only [Act.put,sA_,sB_,sC_]
      rfl
     refine pure_ (i:=25) (N:=some 41) (v:=undef) (a':=?_) (zA_ 33 67108863) rfl rfl (by kernel_rfl) (fun _ _ _ h => by cases h.1) (Or.inr ⟨by rfl,rfl⟩) ?_ ?_
     rotate_left
     ·simp only [Act.put,sA_,sB_,sC_]
      rfl
     refine pure_ (i:=26) (N:=some 42) (v:=undef) (a':=?_) (zA_ 33 134217727) rfl rfl (by kernel_rfl) (fun _ _ _ h => by cases h.1) (Or.inr ⟨by rfl,rfl⟩) ?_ ?_
     rotate_left
     ·simp only [Act.put,sA_,sB_,sC_]
      rfl
     refine pure_ (i:=27) (N:=some 43) (v:=undef) (a':=?_) (zA_ 33 268435455) rfl rfl (by kernel_rfl) (fun _ _ _ h => by cases h.1) (Or.inr ⟨by rfl,rfl⟩) ?_ ?_
     rotate_left
     ·simp only [Act.put,sA_,sB_,sC_]
      rfl
     refine pure_ (i:=28) (N:=some 44) (v:=undef) (a':=?_) (zA_ 33 536870911) rfl rfl (by kernel_rfl) (fun _ _ _ h => by cases h.1) (Or.inr ⟨by rfl,rfl⟩) ?_ ?_
     rotate_left
     ·simp only [Act.put,sA_,sB_,sC_]
      rfl
     refine pure_ (i:=29) (N:=some 45) (v:=undef) (a':=?_) (zA_ 33 1073741823) rfl rfl (by kernel_rfl) (fun _ _ _ h => by cases h.1) (Or.inr ⟨by rfl,rfl⟩) ?_ ?_
     rotate_left
     ·simp only [Act.put,sA_,sB_,sC_]
      rfl
     refine pure_ (i:=30) (N:=some 46) (v:=undef) (a':=?_) (zA_ 33 2147483647) rfl rfl (by kernel_rfl) (fun _ _ _ h => by cases h.1) (Or.inr ⟨by rfl,rfl⟩) ?_ ?_
     rotate_left
     ·simp only [Act.put,sA_,sB_,sC_]
      rfl
     refine pure_ (i:=31) (N:=some 47) (v:=undef) (a':=?_) (zA_ 33 4294967295) rfl rfl (by kernel_rfl) (fun _ _ _ h => by cases h.1) (Or.inr ⟨by rfl,rfl⟩) ?_ ?_
     rotate_left
     ·simp only [Act.put,sA_,sB_,sC_]
      rfl
     refine pure_ (i:=32) (N:=some 48) (v:=?_) (a':=?_) (zA_ 33 8589934591) rfl rfl (by kernel_rfl) (fun _ _ _ h => by cases h.1) (Or.inl ⟨by rfl,?_⟩) ?_ ?_
     rotate_left
     ·intro w'
      go_simp
      with_reducible rfl
     rotate_left
     ·simp only [Act.put,sA_,sB_,sC_]
      rfl
     refine done_ (by kernel_rfl) ⟨rfl,?_⟩
     rename_i hKK
     refine hKK _ _ ?_
     clear hKK
     go_wp2
     repeat (go_quiet (fail);try go_wp2)
     go_ret
     exact ⟨rfl,hHeld.2.2.2⟩
    ·have u1b : decide (at_ < 0) = false:=decide_eq_false u1
     by_cases u2 : at_ ≥ manyF c k
     ·have hb : symBad c seen ⟨k,at_,nm⟩ = true:=by simp [symBad,u2]
      rw [if_pos hb] at hr
      subst hr
      have u2b : decide (manyF c k ≤ at_) = true:=decide_eq_true u2
      clear hb u2 u1
      refine wp_normal' ?_
      refine start_ (n:=33) (S:=fun w' => w'.heap[w.heap.size]? = some (.cells #[.int .i64 c.f0,.slice A1 c.f1.length c1,.slice A2 c.f2.length c2,.slice A3 c.f3.length c3,.slice A4 c.f4.length c4,.slice A5 c.f5.length c5,.slice A6 c.f6.length c6,.slice A7 c.f7.length c7,.slice A8 c.f8.length c8,.slice (some ad) c.f9.length c9,.slice A10 c.f10.length c10] 29 (0,0)) ∧ w'.heap[g8]? = some (.cells #[.int .u8 k,.int .i64 at_,.string nm] 77 (0,0)) ∧ w'.heap[w.heap.size + 1]? = some (.map (esOf seen) n) ∧ Below w.heap.size w w') (ds:=[]) (Array.replicate 33 false) (by kernel_rfl) rfl rfl ⟨HC1.out,HC8.out,HC2.out,below_drew HB8.out⟩ (fun hHeld => ?_)
      refine pure_ (i:=0) (N:=some 16) (v:=?_) (a':=?_) (zA_ 33 1) rfl rfl (by kernel_rfl) (fun _ _ _ h => by cases h.1) (Or.inl ⟨by rfl,?_⟩) ?_ ?_
      rotate_left
      ·intro w'
       go_simp
       with_reducible rfl
      rotate_left
      ·simp only [Act.put,sA_,sB_,sC_]
       rfl
      refine take_ (i:=1) (N:=some 17) (v:=?_) (a':=?_) (zA_ 33 3) rfl rfl (by kernel_rfl) (fun _ _ _ h => by cases h.1) (Or.inl ⟨by rfl,?_⟩) hHeld ?_ ?_
      rotate_left
      ·intro w' s_
       obtain ⟨s0_,s1,s2,s3⟩:=s_
       have y0 : w'.cell? ⟨g8,0,none⟩ = some (.int .u8 k):=(bC_ s1 0).trans rfl
       have y1 : w'.cell? ⟨g8,1,none⟩ = some (.int .i64 at_):=(bC_ s1 1).trans rfl
       have y2 : w'.cell? ⟨g8,2,none⟩ = some (.string nm):=(bC_ s1 2).trans rfl
       go_simp
       with_reducible rfl
      rotate_left
      ·simp only [Act.put,sA_,sB_,sC_]
       rfl
      refine pure_ (i:=2) (N:=some 18) (v:=?_) (a':=?_) (zA_ 33 7) rfl rfl (by kernel_rfl) (fun _ _ _ h => by cases h.1) (Or.inl ⟨by rfl,?_⟩) ?_ ?_
      rotate_left
      ·intro w'
       go_simp
       with_reducible rfl
      rotate_left
      ·simp only [Act.put,sA_,sB_,sC_]
       rfl
      refine pure_ (i:=3) (N:=some 19) (v:=?_) (a':=?_) (zA_ 33 15) rfl rfl (by kernel_rfl) (fun _ _ _ h => by cases h.1) (Or.inl ⟨by rfl,?_⟩) ?_ ?_
      rotate_left
      ·intro w'
       go_simp
       with_reducible rfl
      rotate_left
      ·simp only [Act.put,sA_,sB_,sC_]
       rfl
      refine pure_ (i:=4) (N:=some 20) (v:=?_) (a':=?_) (zA_ 33 31) rfl rfl (by kernel_rfl) (fun _ _ _ h => by cases h.1) (Or.inl ⟨by rfl,?_⟩) ?_ ?_
      rotate_left
      ·intro w'
       go_simp
       with_reducible rfl
      rotate_left
      ·simp only [Act.put,sA_,sB_,sC_]
       rfl
      refine take_ (i:=5) (N:=some 21) (v:=?_) (a':=?_) (zA_ 33 63) rfl rfl (by kernel_rfl) (fun _ _ _ h => by cases h.1) (Or.inl ⟨by rfl,?_⟩) hHeld ?_ ?_
      rotate_left
      ·intro w' s_
       obtain ⟨s0_,s1,s2,s3⟩:=s_
       have y0 : w'.cell? ⟨g8,0,none⟩ = some (.int .u8 k):=(bC_ s1 0).trans rfl
       have y1 : w'.cell? ⟨g8,1,none⟩ = some (.int .i64 at_):=(bC_ s1 1).trans rfl
       have y2 : w'.cell? ⟨g8,2,none⟩ = some (.string nm):=(bC_ s1 2).trans rfl
       go_simp
       with_reducible rfl
      rotate_left
      ·simp only [Act.put,sA_,sB_,sC_]
       rfl
      refine take_ (i:=6) (N:=some 22) (v:=?_) (a':=?_) (zA_ 33 127) rfl rfl (by kernel_rfl) (fun _ _ _ h => by cases h.1) (Or.inl ⟨by rfl,?_⟩) hHeld ?_ ?_
      rotate_left
      ·intro w' s_
       obtain ⟨s0_,s1,s2,s3⟩:=s_
       have y0 : w'.cell? ⟨w.heap.size,0,none⟩ = some (.int .i64 c.f0):=(bC_ s0_ 0).trans rfl
       have y1 : w'.cell? ⟨w.heap.size,1,none⟩ = some (.slice A1 c.f1.length c1):=(bC_ s0_ 1).trans rfl
       have y2 : w'.cell? ⟨w.heap.size,2,none⟩ = some (.slice A2 c.f2.length c2):=(bC_ s0_ 2).trans rfl
       have y3 : w'.cell? ⟨w.heap.size,3,none⟩ = some (.slice A3 c.f3.length c3):=(bC_ s0_ 3).trans rfl
       have y4 : w'.cell? ⟨w.heap.size,4,none⟩ = some (.slice A4 c.f4.length c4):=(bC_ s0_ 4).trans rfl
       have y5 : w'.cell? ⟨w.heap.size,5,none⟩ = some (.slice A5 c.f5.length c5):=(bC_ s0_ 5).trans rfl
       have y6 : w'.cell? ⟨w.heap.size,6,none⟩ = some (.slice A6 c.f6.length c6):=(bC_ s0_ 6).trans rfl
       have y7 : w'.cell? ⟨w.heap.size,7,none⟩ = some (.slice A7 c.f7.length c7):=(bC_ s0_ 7).trans rfl
       have y8 : w'.cell? ⟨w.heap.size,8,none⟩ = some (.slice A8 c.f8.length c8):=(bC_ s0_ 8).trans rfl
       have y9 : w'.cell? ⟨w.heap.size,9,none⟩ = some (.slice (some ad) c.f9.length c9):=(bC_ s0_ 9).trans rfl
       have y10 : w'.cell? ⟨w.heap.size,10,none⟩ = some (.slice A10 c.f10.length c10):=(bC_ s0_ 10).trans rfl
       go_simp
       with_reducible rfl
      rotate_left
      ·simp only [Act.put,sA_,sB_,sC_]
       rfl
      refine pure_ (i:=7) (N:=some 23) (v:=?_) (a':=?_) (zA_ 33 255) rfl rfl (by kernel_rfl) (fun _ _ _ h => by cases h.1) (Or.inl ⟨by rfl,?_⟩) ?_ ?_
      rotate_left
      ·intro w'
       go_simp
       with_reducible rfl
      rotate_left
      ·simp only [Act.put,sA_,sB_,sC_]
       rfl
      refine take_ (i:=8) (N:=some 24) (v:=?_) (a':=?_) (zA_ 33 511) rfl rfl (by kernel_rfl) (fun _ _ _ h => by cases h.1) (Or.inl ⟨by rfl,?_⟩) hHeld ?_ ?_
      rotate_left
      ·intro w' s_
       obtain ⟨s0_,s1,s2,s3⟩:=s_
       have y0 : w'.cell? ⟨g8,0,none⟩ = some (.int .u8 k):=(bC_ s1 0).trans rfl
       have y1 : w'.cell? ⟨g8,1,none⟩ = some (.int .i64 at_):=(bC_ s1 1).trans rfl
       have y2 : w'.cell? ⟨g8,2,none⟩ = some (.string nm):=(bC_ s1 2).trans rfl
       go_simp
       with_reducible rfl
      rotate_left
      ·simp only [Act.put,sA_,sB_,sC_]
       rfl
      refine one_ (i:=9) (N:=some 25) (zA_ 33 1023) rfl rfl (by kernel_rfl) (by decide) (fun K hK => ?_)
      have hcr:=HC.out.below hHeld.2.2.2
      refine goes_ Tryz.func113 (by kernel_rfl) rfl #[.agg #[.int .i64 c.f0,.slice A1 c.f1.length c1,.slice A2 c.f2.length c2,.slice A3 c.f3.length c3,.slice A4 c.f4.length c4,.slice A5 c.f5.length c5,.slice A6 c.f6.length c6,.slice A7 c.f7.length c7,.slice A8 c.f8.length c8,.slice (some ad) c.f9.length c9,.slice A10 c.f10.length c10],.int .u8 k] (by rfl) rfl rfl (by (try simp only [List.map_toArray,List.map_cons,List.map_nil]);first|done|rfl) ?_
      with_reducible refine (shape_many.calls c.f0 A1 c1 c.f1 A2 c2 c.f2 A3 c3 c.f3 A4 c4 c.f4 A5 c5 c.f5 A6 c6 c.f6 A7 c7 c.f7 A8 c8 c.f8 (some ad) c9 c.f9 A10 c10 c.f10 k (manyF c k) _ hcr.r1 HCAP.out.k1 hcr.r2 HCAP.out.k2 hcr.r3 HCAP.out.k3 hcr.r4 HCAP.out.k4 hcr.r5 HCAP.out.k5 hcr.r6 HCAP.out.k6 hcr.r7 HCAP.out.k7 hcr.r8 HCAP.out.k8 hcr.r9 HCAP.out.k9 hcr.r10 HCAP.out.k10 (many_f c k)).mono ?_
      rintro e w9 ⟨rfl,hb⟩
      refine ⟨_,rfl,?_⟩
      have hHn:=And.intro ((hb.block _ (Array.getElem?_eq_some_iff.1 hHeld.1).1).trans hHeld.1) (And.intro ((hb.block _ (Array.getElem?_eq_some_iff.1 hHeld.2.1).1).trans hHeld.2.1) (And.intro ((hb.block _ (Array.getElem?_eq_some_iff.1 hHeld.2.2.1).1).trans hHeld.2.2.1) (hHeld.2.2.2.trans (hb.mono hHeld.2.2.2.size))))
      clear hHeld hb hcr
      refine hK.out _ _ hHn (fun hHeld => ?_)
      clear hK K hHn
      refine norm_ (a':=?_) ?_ ?_
      rotate_left
      ·simp only [Act.put,sA_,sB_,sC_]
       rfl
      refine pure_ (i:=10) (N:=some 26) (v:=?_) (a':=?_) (zA_ 33 2047) rfl rfl (by kernel_rfl) (fun _ _ _ h => by cases h.1) (Or.inl ⟨by rfl,?_⟩) ?_ ?_
      rotate_left
      ·intro w'
       go_simp
       with_reducible rfl
      rotate_left
      ·simp only [Act.put,sA_,sB_,sC_]
       rfl
      refine pure_ (i:=11) (N:=some 27) (v:=?_) (a':=?_) (zA_ 33 4095) rfl rfl (by kernel_rfl) (fun _ _ _ h => by cases h.1) (Or.inl ⟨by rfl,?_⟩) ?_ ?_
      rotate_left
      ·intro w'
       go_simp
       with_reducible rfl
      rotate_left
      ·simp only [Act.put,sA_,sB_,sC_]
       rfl
      refine pure_ (i:=12) (N:=some 28) (v:=?_) (a':=?_) (zA_ 33 8191) rfl rfl (by kernel_rfl) (fun _ _ _ h => by cases h.1) (Or.inl ⟨by rfl,?_⟩) ?_ ?_
      rotate_left
      ·intro w'
       go_simp
       with_reducible rfl
      rotate_left
      ·simp only [Act.put,sA_,sB_,sC_]
       rfl
      refine pure_ (i:=13) (N:=some 29) (v:=undef) (a':=?_) (zA_ 33 16383) rfl rfl (by kernel_rfl) (fun _ _ _ h => by cases h.1) (Or.inr ⟨by rfl,rfl⟩) ?_ ?_
      rotate_left
      ·simp only [Act.put,sA_,sB_,sC_]
       rfl
      refine pure_ (i:=14) (N:=some 30) (v:=undef) (a':=?_) (zA_ 33 32767) rfl rfl (by kernel_rfl) (fun _ _ _ h => by cases h.1) (Or.inr ⟨by rfl,rfl⟩) ?_ ?_
      rotate_left
      ·simp only [Act.put,sA_,sB_,sC_]
       rfl
      refine pure_ (i:=15) (N:=some 31) (v:=undef) (a':=?_) (zA_ 33 65535) rfl rfl (by kernel_rfl) (fun _ _ _ h => by cases h.1) (Or.inr ⟨by rfl,rfl⟩) ?_ ?_
      rotate_left
      ·simp only [Act.put,sA_,sB_,sC_]
       rfl
      refine pure_ (i:=16) (N:=some 32) (v:=?_) (a':=?_) (zA_ 33 131071) rfl rfl (by kernel_rfl) (fun _ _ _ h => by cases h.1) (Or.inl ⟨by rfl,?_⟩) ?_ ?_
      rotate_left
      ·intro w'
       go_simp
       with_reducible rfl
      rotate_left
      ·simp only [Act.put,sA_,sB_,sC_]
       rfl
      refine pure_ (i:=17) (N:=some 33) (v:=?_) (a':=?_) (zA_ 33 262143) rfl rfl (by kernel_rfl) (fun _ _ _ h => by cases h.1) (Or.inl ⟨by rfl,?_⟩) ?_ ?_
      rotate_left
      ·intro w'
       go_simp
       with_reducible rfl
      rotate_left
      ·simp only [Act.put,sA_,sB_,sC_]
       rfl
      refine pure_ (i:=18) (N:=some 34) (v:=undef) (a':=?_) (zA_ 33 524287) rfl rfl (by kernel_rfl) (fun _ _ _ h => by cases h.1) (Or.inr ⟨by rfl,rfl⟩) ?_ ?_
      rotate_left
      ·simp only [Act.put,sA_,sB_,sC_]
       rfl
      refine pure_ (i:=19) (N:=some 35) (v:=undef) (a':=?_) (zA_ 33 1048575) rfl rfl (by kernel_rfl) (fun _ _ _ h => by cases h.1) (Or.inr ⟨by rfl,rfl⟩) ?_ ?_
      rotate_left
      ·simp only [Act.put,sA_,sB_,sC_]
       rfl
      refine pure_ (i:=20) (N:=some 36) (v:=undef) (a':=?_) (zA_ 33 2097151) rfl rfl (by kernel_rfl) (fun _ _ _ h => by cases h.1) (Or.inr ⟨by rfl,rfl⟩) ?_ ?_
      rotate_left
      ·simp only [Act.put,sA_,sB_,sC_]
       rfl
      refine pure_ (i:=21) (N:=some 37) (v:=undef) (a':=?_) (zA_ 33 4194303) rfl rfl (by kernel_rfl) (fun _ _ _ h => by cases h.1) (Or.inr ⟨by rfl,rfl⟩) ?_ ?_
      rotate_left
      ·simp only [Act.put,sA_,sB_,sC_]
       rfl
      refine pure_ (i:=22) (N:=some 38) (v:=?_) (a':=?_) (zA_ 33 8388607) rfl rfl (by kernel_rfl) (fun _ _ _ h => by cases h.1) (Or.inl ⟨by rfl,?_⟩) ?_ ?_
      rotate_left
      ·intro w'
       go_simp
       with_reducible rfl
      rotate_left
      ·simp only [Act.put,sA_,sB_,sC_]
       rfl
      refine pure_ (i:=23) (N:=some 39) (v:=?_) (a':=?_) (zA_ 33 16777215) rfl rfl (by kernel_rfl) (fun _ _ _ h => by cases h.1) (Or.inl ⟨by rfl,?_⟩) ?_ ?_
      rotate_left
      ·intro w'
       go_simp
       with_reducible rfl
      rotate_left
      ·simp only [Act.put,sA_,sB_,sC_]
       rfl
      refine pure_ (i:=24) (N:=some 40) (v:=undef) (a':=?_) (zA_ 33 33554431) rfl rfl (by kernel_rfl) (fun _ _ _ h => by cases h.1) (Or.inr ⟨by rfl,rfl⟩) ?_ ?_
      rotate_left
      ·simp only [Act.put,sA_,sB_,sC_]
       rfl
      refine pure_ (i:=25) (N:=some 41) (v:=undef) (a':=?_) (zA_ 33 67108863) rfl rfl (by kernel_rfl) (fun _ _ _ h => by cases h.1) (Or.inr ⟨by rfl,rfl⟩) ?_ ?_
      rotate_left
      ·simp only [Act.put,sA_,sB_,sC_]
       rfl
      refine pure_ (i:=26) (N:=some 42) (v:=undef) (a':=?_) (zA_ 33 134217727) rfl rfl (by kernel_rfl) (fun _ _ _ h => by cases h.1) (Or.inr ⟨by rfl,rfl⟩) ?_ ?_
      rotate_left
      ·simp only [Act.put,sA_,sB_,sC_]
       rfl
      refine pure_ (i:=27) (N:=some 43) (v:=undef) (a':=?_) (zA_ 33 268435455) rfl rfl (by kernel_rfl) (fun _ _ _ h => by cases h.1) (Or.inr ⟨by rfl,rfl⟩) ?_ ?_
      rotate_left
      ·simp only [Act.put,sA_,sB_,sC_]
       rfl
      refine pure_ (i:=28) (N:=some 44) (v:=undef) (a':=?_) (zA_ 33 536870911) rfl rfl (by kernel_rfl) (fun _ _ _ h => by cases h.1) (Or.inr ⟨by rfl,rfl⟩) ?_ ?_
      rotate_left
      ·simp only [Act.put,sA_,sB_,sC_]
       rfl
      refine pure_ (i:=29) (N:=some 45) (v:=undef) (a':=?_) (zA_ 33 1073741823) rfl rfl (by kernel_rfl) (fun _ _ _ h => by cases h.1) (Or.inr ⟨by rfl,rfl⟩) ?_ ?_
      rotate_left
      ·simp only [Act.put,sA_,sB_,sC_]
       rfl
      refine pure_ (i:=30) (N:=some 46) (v:=undef) (a':=?_) (zA_ 33 2147483647) rfl rfl (by kernel_rfl) (fun _ _ _ h => by cases h.1) (Or.inr ⟨by rfl,rfl⟩) ?_ ?_
      rotate_left
      ·simp only [Act.put,sA_,sB_,sC_]
       rfl
      refine pure_ (i:=31) (N:=some 47) (v:=undef) (a':=?_) (zA_ 33 4294967295) rfl rfl (by kernel_rfl) (fun _ _ _ h => by cases h.1) (Or.inr ⟨by rfl,rfl⟩) ?_ ?_
      rotate_left
      ·simp only [Act.put,sA_,sB_,sC_]
       rfl
      refine pure_ (i:=32) (N:=some 48) (v:=?_) (a':=?_) (zA_ 33 8589934591) rfl rfl (by kernel_rfl) (fun _ _ _ h => by cases h.1) (Or.inl ⟨by rfl,?_⟩) ?_ ?_
      rotate_left
      ·intro w'
       go_simp
       with_reducible rfl
      rotate_left
      ·simp only [Act.put,sA_,sB_,sC_]
       rfl
      refine done_ (by kernel_rfl) ⟨rfl,?_⟩
      rename_i hKK
      refine hKK _ _ ?_
      clear hKK
      go_wp2
      repeat (go_quiet (fail);try go_wp2)
      go_ret
      exact ⟨rfl,hHeld.2.2.2⟩
     ·have u2b : decide (manyF c k ≤ at_) = false:=decide_eq_false u2
      by_cases u3 : nm.size = 0
      ·have hb : symBad c seen ⟨k,at_,nm⟩ = true:=by simp [symBad,u3]
       rw [if_pos hb] at hr
       subst hr
       have hnm : nm = ⟨#[]⟩:=by
        obtain ⟨d⟩:=nm
        have : d.size = 0:=u3
        rw [Array.eq_empty_of_size_eq_zero this]
       subst hnm
       clear hb u2 u1 u3
       refine wp_normal' ?_
       refine start_ (n:=33) (S:=fun w' => w'.heap[w.heap.size]? = some (.cells #[.int .i64 c.f0,.slice A1 c.f1.length c1,.slice A2 c.f2.length c2,.slice A3 c.f3.length c3,.slice A4 c.f4.length c4,.slice A5 c.f5.length c5,.slice A6 c.f6.length c6,.slice A7 c.f7.length c7,.slice A8 c.f8.length c8,.slice (some ad) c.f9.length c9,.slice A10 c.f10.length c10] 29 (0,0)) ∧ w'.heap[g8]? = some (.cells #[.int .u8 k,.int .i64 at_,.string ⟨#[]⟩] 77 (0,0)) ∧ w'.heap[w.heap.size + 1]? = some (.map (esOf seen) n) ∧ Below w.heap.size w w') (ds:=[]) (Array.replicate 33 false) (by kernel_rfl) rfl rfl ⟨HC1.out,HC8.out,HC2.out,below_drew HB8.out⟩ (fun hHeld => ?_)
       refine pure_ (i:=0) (N:=some 16) (v:=?_) (a':=?_) (zA_ 33 1) rfl rfl (by kernel_rfl) (fun _ _ _ h => by cases h.1) (Or.inl ⟨by rfl,?_⟩) ?_ ?_
       rotate_left
       ·intro w'
        go_simp
        with_reducible rfl
       rotate_left
       ·simp only [Act.put,sA_,sB_,sC_]
        rfl
       refine take_ (i:=1) (N:=some 17) (v:=?_) (a':=?_) (zA_ 33 3) rfl rfl (by kernel_rfl) (fun _ _ _ h => by cases h.1) (Or.inl ⟨by rfl,?_⟩) hHeld ?_ ?_
       rotate_left
       ·intro w' s_
        obtain ⟨s0_,s1,s2,s3⟩:=s_
        have y0 : w'.cell? ⟨g8,0,none⟩ = some (.int .u8 k):=(bC_ s1 0).trans rfl
        have y1 : w'.cell? ⟨g8,1,none⟩ = some (.int .i64 at_):=(bC_ s1 1).trans rfl
        have y2 : w'.cell? ⟨g8,2,none⟩ = some (.string ⟨#[]⟩):=(bC_ s1 2).trans rfl
        go_simp
        with_reducible rfl
       rotate_left
       ·simp only [Act.put,sA_,sB_,sC_]
        rfl
       refine pure_ (i:=2) (N:=some 18) (v:=?_) (a':=?_) (zA_ 33 7) rfl rfl (by kernel_rfl) (fun _ _ _ h => by cases h.1) (Or.inl ⟨by rfl,?_⟩) ?_ ?_
       rotate_left
       ·intro w'
        go_simp
        with_reducible rfl
       rotate_left
       ·simp only [Act.put,sA_,sB_,sC_]
        rfl
       refine pure_ (i:=3) (N:=some 19) (v:=?_) (a':=?_) (zA_ 33 15) rfl rfl (by kernel_rfl) (fun _ _ _ h => by cases h.1) (Or.inl ⟨by rfl,?_⟩) ?_ ?_
       rotate_left
       ·intro w'
        go_simp
        with_reducible rfl
       rotate_left
       ·simp only [Act.put,sA_,sB_,sC_]
        rfl
       refine pure_ (i:=4) (N:=some 20) (v:=?_) (a':=?_) (zA_ 33 31) rfl rfl (by kernel_rfl) (fun _ _ _ h => by cases h.1) (Or.inl ⟨by rfl,?_⟩) ?_ ?_
       rotate_left
       ·intro w'
        go_simp
        with_reducible rfl
       rotate_left
       ·simp only [Act.put,sA_,sB_,sC_]
        rfl
       refine take_ (i:=5) (N:=some 21) (v:=?_) (a':=?_) (zA_ 33 63) rfl rfl (by kernel_rfl) (fun _ _ _ h => by cases h.1) (Or.inl ⟨by rfl,?_⟩) hHeld ?_ ?_
       rotate_left
       ·intro w' s_
        obtain ⟨s0_,s1,s2,s3⟩:=s_
        have y0 : w'.cell? ⟨g8,0,none⟩ = some (.int .u8 k):=(bC_ s1 0).trans rfl
        have y1 : w'.cell? ⟨g8,1,none⟩ = some (.int .i64 at_):=(bC_ s1 1).trans rfl
        have y2 : w'.cell? ⟨g8,2,none⟩ = some (.string ⟨#[]⟩):=(bC_ s1 2).trans rfl
        go_simp
        with_reducible rfl
       rotate_left
       ·simp only [Act.put,sA_,sB_,sC_]
        rfl
       refine take_ (i:=6) (N:=some 22) (v:=?_) (a':=?_) (zA_ 33 127) rfl rfl (by kernel_rfl) (fun _ _ _ h => by cases h.1) (Or.inl ⟨by rfl,?_⟩) hHeld ?_ ?_
       rotate_left
       ·intro w' s_
        obtain ⟨s0_,s1,s2,s3⟩:=s_
        have y0 : w'.cell? ⟨w.heap.size,0,none⟩ = some (.int .i64 c.f0):=(bC_ s0_ 0).trans rfl
        have y1 : w'.cell? ⟨w.heap.size,1,none⟩ = some (.slice A1 c.f1.length c1):=(bC_ s0_ 1).trans rfl
        have y2 : w'.cell? ⟨w.heap.size,2,none⟩ = some (.slice A2 c.f2.length c2):=(bC_ s0_ 2).trans rfl
        have y3 : w'.cell? ⟨w.heap.size,3,none⟩ = some (.slice A3 c.f3.length c3):=(bC_ s0_ 3).trans rfl
        have y4 : w'.cell? ⟨w.heap.size,4,none⟩ = some (.slice A4 c.f4.length c4):=(bC_ s0_ 4).trans rfl
        have y5 : w'.cell? ⟨w.heap.size,5,none⟩ = some (.slice A5 c.f5.length c5):=(bC_ s0_ 5).trans rfl
        have y6 : w'.cell? ⟨w.heap.size,6,none⟩ = some (.slice A6 c.f6.length c6):=(bC_ s0_ 6).trans rfl
        have y7 : w'.cell? ⟨w.heap.size,7,none⟩ = some (.slice A7 c.f7.length c7):=(bC_ s0_ 7).trans rfl
        have y8 : w'.cell? ⟨w.heap.size,8,none⟩ = some (.slice A8 c.f8.length c8):=(bC_ s0_ 8).trans rfl
        have y9 : w'.cell? ⟨w.heap.size,9,none⟩ = some (.slice (some ad) c.f9.length c9):=(bC_ s0_ 9).trans rfl
        have y10 : w'.cell? ⟨w.heap.size,10,none⟩ = some (.slice A10 c.f10.length c10):=(bC_ s0_ 10).trans rfl
        go_simp
        with_reducible rfl
       rotate_left
       ·simp only [Act.put,sA_,sB_,sC_]
        rfl
       refine pure_ (i:=7) (N:=some 23) (v:=?_) (a':=?_) (zA_ 33 255) rfl rfl (by kernel_rfl) (fun _ _ _ h => by cases h.1) (Or.inl ⟨by rfl,?_⟩) ?_ ?_
       rotate_left
       ·intro w'
        go_simp
        with_reducible rfl
       rotate_left
       ·simp only [Act.put,sA_,sB_,sC_]
        rfl
       refine take_ (i:=8) (N:=some 24) (v:=?_) (a':=?_) (zA_ 33 511) rfl rfl (by kernel_rfl) (fun _ _ _ h => by cases h.1) (Or.inl ⟨by rfl,?_⟩) hHeld ?_ ?_
       rotate_left
       ·intro w' s_
        obtain ⟨s0_,s1,s2,s3⟩:=s_
        have y0 : w'.cell? ⟨g8,0,none⟩ = some (.int .u8 k):=(bC_ s1 0).trans rfl
        have y1 : w'.cell? ⟨g8,1,none⟩ = some (.int .i64 at_):=(bC_ s1 1).trans rfl
        have y2 : w'.cell? ⟨g8,2,none⟩ = some (.string ⟨#[]⟩):=(bC_ s1 2).trans rfl
        go_simp
        with_reducible rfl
       rotate_left
       ·simp only [Act.put,sA_,sB_,sC_]
        rfl
       refine one_ (i:=9) (N:=some 25) (zA_ 33 1023) rfl rfl (by kernel_rfl) (by decide) (fun K hK => ?_)
       have hcr:=HC.out.below hHeld.2.2.2
       refine goes_ Tryz.func113 (by kernel_rfl) rfl #[.agg #[.int .i64 c.f0,.slice A1 c.f1.length c1,.slice A2 c.f2.length c2,.slice A3 c.f3.length c3,.slice A4 c.f4.length c4,.slice A5 c.f5.length c5,.slice A6 c.f6.length c6,.slice A7 c.f7.length c7,.slice A8 c.f8.length c8,.slice (some ad) c.f9.length c9,.slice A10 c.f10.length c10],.int .u8 k] (by rfl) rfl rfl (by (try simp only [List.map_toArray,List.map_cons,List.map_nil]);first|done|rfl) ?_
       with_reducible refine (shape_many.calls c.f0 A1 c1 c.f1 A2 c2 c.f2 A3 c3 c.f3 A4 c4 c.f4 A5 c5 c.f5 A6 c6 c.f6 A7 c7 c.f7 A8 c8 c.f8 (some ad) c9 c.f9 A10 c10 c.f10 k (manyF c k) _ hcr.r1 HCAP.out.k1 hcr.r2 HCAP.out.k2 hcr.r3 HCAP.out.k3 hcr.r4 HCAP.out.k4 hcr.r5 HCAP.out.k5 hcr.r6 HCAP.out.k6 hcr.r7 HCAP.out.k7 hcr.r8 HCAP.out.k8 hcr.r9 HCAP.out.k9 hcr.r10 HCAP.out.k10 (many_f c k)).mono ?_
       rintro e w9 ⟨rfl,hb⟩
       refine ⟨_,rfl,?_⟩
       have hHn:=And.intro ((hb.block _ (Array.getElem?_eq_some_iff.1 hHeld.1).1).trans hHeld.1) (And.intro ((hb.block _ (Array.getElem?_eq_some_iff.1 hHeld.2.1).1).trans hHeld.2.1) (And.intro ((hb.block _ (Array.getElem?_eq_some_iff.1 hHeld.2.2.1).1).trans hHeld.2.2.1) (hHeld.2.2.2.trans (hb.mono hHeld.2.2.2.size))))
       clear hHeld hb hcr
       refine hK.out _ _ hHn (fun hHeld => ?_)
       clear hK K hHn
       refine norm_ (a':=?_) ?_ ?_
       rotate_left
       ·simp only [Act.put,sA_,sB_,sC_]
        rfl
       refine pure_ (i:=10) (N:=some 26) (v:=?_) (a':=?_) (zA_ 33 2047) rfl rfl (by kernel_rfl) (fun _ _ _ h => by cases h.1) (Or.inl ⟨by rfl,?_⟩) ?_ ?_
       rotate_left
       ·intro w'
        go_simp
        with_reducible rfl
       rotate_left
       ·simp only [Act.put,sA_,sB_,sC_]
        rfl
       refine pure_ (i:=11) (N:=some 27) (v:=?_) (a':=?_) (zA_ 33 4095) rfl rfl (by kernel_rfl) (fun _ _ _ h => by cases h.1) (Or.inl ⟨by rfl,?_⟩) ?_ ?_
       rotate_left
       ·intro w'
        go_simp
        with_reducible rfl
       rotate_left
       ·simp only [Act.put,sA_,sB_,sC_]
        rfl
       refine pure_ (i:=12) (N:=some 28) (v:=?_) (a':=?_) (zA_ 33 8191) rfl rfl (by kernel_rfl) (fun _ _ _ h => by cases h.1) (Or.inl ⟨by rfl,?_⟩) ?_ ?_
       rotate_left
       ·intro w'
        go_simp
        with_reducible rfl
       rotate_left
       ·simp only [Act.put,sA_,sB_,sC_]
        rfl
       refine pure_ (i:=13) (N:=some 29) (v:=?_) (a':=?_) (zA_ 33 16383) rfl rfl (by kernel_rfl) (fun _ _ _ h => by cases h.1) (Or.inl ⟨by rfl,?_⟩) ?_ ?_
       rotate_left
       ·intro w'
        go_simp
        with_reducible rfl
       rotate_left
       ·simp only [Act.put,sA_,sB_,sC_]
        rfl
       refine take_ (i:=14) (N:=some 30) (v:=?_) (a':=?_) (zA_ 33 32767) rfl rfl (by kernel_rfl) (fun _ _ _ h => by cases h.1) (Or.inl ⟨by rfl,?_⟩) hHeld ?_ ?_
       rotate_left
       ·intro w' s_
        obtain ⟨s0_,s1,s2,s3⟩:=s_
        have y0 : w'.cell? ⟨g8,0,none⟩ = some (.int .u8 k):=(bC_ s1 0).trans rfl
        have y1 : w'.cell? ⟨g8,1,none⟩ = some (.int .i64 at_):=(bC_ s1 1).trans rfl
        have y2 : w'.cell? ⟨g8,2,none⟩ = some (.string ⟨#[]⟩):=(bC_ s1 2).trans rfl
        go_simp
        with_reducible rfl
       rotate_left
       ·simp only [Act.put,sA_,sB_,sC_]
        rfl
       refine pure_ (i:=15) (N:=some 31) (v:=?_) (a':=?_) (zA_ 33 65535) rfl rfl (by kernel_rfl) (fun _ _ _ h => by cases h.1) (Or.inl ⟨by rfl,?_⟩) ?_ ?_
       rotate_left
       ·intro w'
        go_simp
        with_reducible rfl
       rotate_left
       ·simp only [Act.put,sA_,sB_,sC_]
        rfl
       refine pure_ (i:=16) (N:=some 32) (v:=?_) (a':=?_) (zA_ 33 131071) rfl rfl (by kernel_rfl) (fun _ _ _ h => by cases h.1) (Or.inl ⟨by rfl,?_⟩) ?_ ?_
       rotate_left
       ·intro w'
        go_simp
        with_reducible rfl
       rotate_left
       ·simp only [Act.put,sA_,sB_,sC_]
        rfl
       refine pure_ (i:=17) (N:=some 33) (v:=?_) (a':=?_) (zA_ 33 262143) rfl rfl (by kernel_rfl) (fun _ _ _ h => by cases h.1) (Or.inl ⟨by rfl,?_⟩) ?_ ?_
       rotate_left
       ·intro w'
        go_simp
        with_reducible rfl
       rotate_left
       ·simp only [Act.put,sA_,sB_,sC_]
        rfl
       refine pure_ (i:=18) (N:=some 34) (v:=undef) (a':=?_) (zA_ 33 524287) rfl rfl (by kernel_rfl) (fun _ _ _ h => by cases h.1) (Or.inr ⟨by rfl,rfl⟩) ?_ ?_
       rotate_left
       ·simp only [Act.put,sA_,sB_,sC_]
        rfl
       refine pure_ (i:=19) (N:=some 35) (v:=undef) (a':=?_) (zA_ 33 1048575) rfl rfl (by kernel_rfl) (fun _ _ _ h => by cases h.1) (Or.inr ⟨by rfl,rfl⟩) ?_ ?_
       rotate_left
       ·simp only [Act.put,sA_,sB_,sC_]
        rfl
       refine pure_ (i:=20) (N:=some 36) (v:=undef) (a':=?_) (zA_ 33 2097151) rfl rfl (by kernel_rfl) (fun _ _ _ h => by cases h.1) (Or.inr ⟨by rfl,rfl⟩) ?_ ?_
       rotate_left
       ·simp only [Act.put,sA_,sB_,sC_]
        rfl
       refine pure_ (i:=21) (N:=some 37) (v:=undef) (a':=?_) (zA_ 33 4194303) rfl rfl (by kernel_rfl) (fun _ _ _ h => by cases h.1) (Or.inr ⟨by rfl,rfl⟩) ?_ ?_
       rotate_left
       ·simp only [Act.put,sA_,sB_,sC_]
        rfl
       refine pure_ (i:=22) (N:=some 38) (v:=?_) (a':=?_) (zA_ 33 8388607) rfl rfl (by kernel_rfl) (fun _ _ _ h => by cases h.1) (Or.inl ⟨by rfl,?_⟩) ?_ ?_
       rotate_left
       ·intro w'
        go_simp
        with_reducible rfl
       rotate_left
       ·simp only [Act.put,sA_,sB_,sC_]
        rfl
       refine pure_ (i:=23) (N:=some 39) (v:=?_) (a':=?_) (zA_ 33 16777215) rfl rfl (by kernel_rfl) (fun _ _ _ h => by cases h.1) (Or.inl ⟨by rfl,?_⟩) ?_ ?_
       rotate_left
       ·intro w'
        go_simp
        with_reducible rfl
       rotate_left
       ·simp only [Act.put,sA_,sB_,sC_]
        rfl
       refine pure_ (i:=24) (N:=some 40) (v:=undef) (a':=?_) (zA_ 33 33554431) rfl rfl (by kernel_rfl) (fun _ _ _ h => by cases h.1) (Or.inr ⟨by rfl,rfl⟩) ?_ ?_
       rotate_left
       ·simp only [Act.put,sA_,sB_,sC_]
        rfl
       refine pure_ (i:=25) (N:=some 41) (v:=undef) (a':=?_) (zA_ 33 67108863) rfl rfl (by kernel_rfl) (fun _ _ _ h => by cases h.1) (Or.inr ⟨by rfl,rfl⟩) ?_ ?_
       rotate_left
       ·simp only [Act.put,sA_,sB_,sC_]
        rfl
       refine pure_ (i:=26) (N:=some 42) (v:=undef) (a':=?_) (zA_ 33 134217727) rfl rfl (by kernel_rfl) (fun _ _ _ h => by cases h.1) (Or.inr ⟨by rfl,rfl⟩) ?_ ?_
       rotate_left
       ·simp only [Act.put,sA_,sB_,sC_]
        rfl
       refine pure_ (i:=27) (N:=some 43) (v:=undef) (a':=?_) (zA_ 33 268435455) rfl rfl (by kernel_rfl) (fun _ _ _ h => by cases h.1) (Or.inr ⟨by rfl,rfl⟩) ?_ ?_
       rotate_left
       ·simp only [Act.put,sA_,sB_,sC_]
        rfl
       refine pure_ (i:=28) (N:=some 44) (v:=undef) (a':=?_) (zA_ 33 536870911) rfl rfl (by kernel_rfl) (fun _ _ _ h => by cases h.1) (Or.inr ⟨by rfl,rfl⟩) ?_ ?_
       rotate_left
       ·simp only [Act.put,sA_,sB_,sC_]
        rfl
       refine pure_ (i:=29) (N:=some 45) (v:=undef) (a':=?_) (zA_ 33 1073741823) rfl rfl (by kernel_rfl) (fun _ _ _ h => by cases h.1) (Or.inr ⟨by rfl,rfl⟩) ?_ ?_
       rotate_left
       ·simp only [Act.put,sA_,sB_,sC_]
        rfl
       refine pure_ (i:=30) (N:=some 46) (v:=undef) (a':=?_) (zA_ 33 2147483647) rfl rfl (by kernel_rfl) (fun _ _ _ h => by cases h.1) (Or.inr ⟨by rfl,rfl⟩) ?_ ?_
       rotate_left
       ·simp only [Act.put,sA_,sB_,sC_]
        rfl
       refine pure_ (i:=31) (N:=some 47) (v:=undef) (a':=?_) (zA_ 33 4294967295) rfl rfl (by kernel_rfl) (fun _ _ _ h => by cases h.1) (Or.inr ⟨by rfl,rfl⟩) ?_ ?_
       rotate_left
       ·simp only [Act.put,sA_,sB_,sC_]
        rfl
       refine pure_ (i:=32) (N:=some 48) (v:=?_) (a':=?_) (zA_ 33 8589934591) rfl rfl (by kernel_rfl) (fun _ _ _ h => by cases h.1) (Or.inl ⟨by rfl,?_⟩) ?_ ?_
       rotate_left
       ·intro w'
        go_simp
        with_reducible rfl
       rotate_left
       ·simp only [Act.put,sA_,sB_,sC_]
        rfl
       refine done_ (by kernel_rfl) ⟨rfl,?_⟩
       rename_i hKK
       refine hKK _ _ ?_
       clear hKK
       go_wp2
       repeat (go_quiet (fail);try go_wp2)
       go_ret
       exact ⟨rfl,hHeld.2.2.2⟩
      ·have u3b : nm.toList.isEmpty = false:=by
        rw [ByteArray.toList_eq,List.isEmpty_eq_false_iff]
        intro h
        have:=congrArg List.length h
        exact u3 (by simpa using this)
       by_cases u4 : nm.size > 64
       ·have hb : symBad c seen ⟨k,at_,nm⟩ = true:=by simp [symBad,u4]
        rw [if_pos hb] at hr
        subst hr
        have u4b : decide ((64 : Int) < (nm.size : Int)) = true:=decide_eq_true (by omega)
        clear hb u2 u1 u3 u4
        refine wp_normal' ?_
        refine start_ (n:=33) (S:=fun w' => w'.heap[w.heap.size]? = some (.cells #[.int .i64 c.f0,.slice A1 c.f1.length c1,.slice A2 c.f2.length c2,.slice A3 c.f3.length c3,.slice A4 c.f4.length c4,.slice A5 c.f5.length c5,.slice A6 c.f6.length c6,.slice A7 c.f7.length c7,.slice A8 c.f8.length c8,.slice (some ad) c.f9.length c9,.slice A10 c.f10.length c10] 29 (0,0)) ∧ w'.heap[g8]? = some (.cells #[.int .u8 k,.int .i64 at_,.string nm] 77 (0,0)) ∧ w'.heap[w.heap.size + 1]? = some (.map (esOf seen) n) ∧ Below w.heap.size w w') (ds:=[]) (Array.replicate 33 false) (by kernel_rfl) rfl rfl ⟨HC1.out,HC8.out,HC2.out,below_drew HB8.out⟩ (fun hHeld => ?_)
        refine pure_ (i:=0) (N:=some 16) (v:=?_) (a':=?_) (zA_ 33 1) rfl rfl (by kernel_rfl) (fun _ _ _ h => by cases h.1) (Or.inl ⟨by rfl,?_⟩) ?_ ?_
        rotate_left
        ·intro w'
         go_simp
         with_reducible rfl
        rotate_left
        ·simp only [Act.put,sA_,sB_,sC_]
         rfl
        refine take_ (i:=1) (N:=some 17) (v:=?_) (a':=?_) (zA_ 33 3) rfl rfl (by kernel_rfl) (fun _ _ _ h => by cases h.1) (Or.inl ⟨by rfl,?_⟩) hHeld ?_ ?_
        rotate_left
        ·intro w' s_
         obtain ⟨s0_,s1,s2,s3⟩:=s_
         have y0 : w'.cell? ⟨g8,0,none⟩ = some (.int .u8 k):=(bC_ s1 0).trans rfl
         have y1 : w'.cell? ⟨g8,1,none⟩ = some (.int .i64 at_):=(bC_ s1 1).trans rfl
         have y2 : w'.cell? ⟨g8,2,none⟩ = some (.string nm):=(bC_ s1 2).trans rfl
         go_simp
         with_reducible rfl
        rotate_left
        ·simp only [Act.put,sA_,sB_,sC_]
         rfl
        refine pure_ (i:=2) (N:=some 18) (v:=?_) (a':=?_) (zA_ 33 7) rfl rfl (by kernel_rfl) (fun _ _ _ h => by cases h.1) (Or.inl ⟨by rfl,?_⟩) ?_ ?_
        rotate_left
        ·intro w'
         go_simp
         with_reducible rfl
        rotate_left
        ·simp only [Act.put,sA_,sB_,sC_]
         rfl
        refine pure_ (i:=3) (N:=some 19) (v:=?_) (a':=?_) (zA_ 33 15) rfl rfl (by kernel_rfl) (fun _ _ _ h => by cases h.1) (Or.inl ⟨by rfl,?_⟩) ?_ ?_
        rotate_left
        ·intro w'
         go_simp
         with_reducible rfl
        rotate_left
        ·simp only [Act.put,sA_,sB_,sC_]
         rfl
        refine pure_ (i:=4) (N:=some 20) (v:=?_) (a':=?_) (zA_ 33 31) rfl rfl (by kernel_rfl) (fun _ _ _ h => by cases h.1) (Or.inl ⟨by rfl,?_⟩) ?_ ?_
        rotate_left
        ·intro w'
         go_simp
         with_reducible rfl
        rotate_left
        ·simp only [Act.put,sA_,sB_,sC_]
         rfl
        refine take_ (i:=5) (N:=some 21) (v:=?_) (a':=?_) (zA_ 33 63) rfl rfl (by kernel_rfl) (fun _ _ _ h => by cases h.1) (Or.inl ⟨by rfl,?_⟩) hHeld ?_ ?_
        rotate_left
        ·intro w' s_
         obtain ⟨s0_,s1,s2,s3⟩:=s_
         have y0 : w'.cell? ⟨g8,0,none⟩ = some (.int .u8 k):=(bC_ s1 0).trans rfl
         have y1 : w'.cell? ⟨g8,1,none⟩ = some (.int .i64 at_):=(bC_ s1 1).trans rfl
         have y2 : w'.cell? ⟨g8,2,none⟩ = some (.string nm):=(bC_ s1 2).trans rfl
         go_simp
         with_reducible rfl
        rotate_left
        ·simp only [Act.put,sA_,sB_,sC_]
         rfl
        refine take_ (i:=6) (N:=some 22) (v:=?_) (a':=?_) (zA_ 33 127) rfl rfl (by kernel_rfl) (fun _ _ _ h => by cases h.1) (Or.inl ⟨by rfl,?_⟩) hHeld ?_ ?_
        rotate_left
        ·intro w' s_
         obtain ⟨s0_,s1,s2,s3⟩:=s_
         have y0 : w'.cell? ⟨w.heap.size,0,none⟩ = some (.int .i64 c.f0):=(bC_ s0_ 0).trans rfl
         have y1 : w'.cell? ⟨w.heap.size,1,none⟩ = some (.slice A1 c.f1.length c1):=(bC_ s0_ 1).trans rfl
         have y2 : w'.cell? ⟨w.heap.size,2,none⟩ = some (.slice A2 c.f2.length c2):=(bC_ s0_ 2).trans rfl
         have y3 : w'.cell? ⟨w.heap.size,3,none⟩ = some (.slice A3 c.f3.length c3):=(bC_ s0_ 3).trans rfl
         have y4 : w'.cell? ⟨w.heap.size,4,none⟩ = some (.slice A4 c.f4.length c4):=(bC_ s0_ 4).trans rfl
         have y5 : w'.cell? ⟨w.heap.size,5,none⟩ = some (.slice A5 c.f5.length c5):=(bC_ s0_ 5).trans rfl
         have y6 : w'.cell? ⟨w.heap.size,6,none⟩ = some (.slice A6 c.f6.length c6):=(bC_ s0_ 6).trans rfl
         have y7 : w'.cell? ⟨w.heap.size,7,none⟩ = some (.slice A7 c.f7.length c7):=(bC_ s0_ 7).trans rfl
         have y8 : w'.cell? ⟨w.heap.size,8,none⟩ = some (.slice A8 c.f8.length c8):=(bC_ s0_ 8).trans rfl
         have y9 : w'.cell? ⟨w.heap.size,9,none⟩ = some (.slice (some ad) c.f9.length c9):=(bC_ s0_ 9).trans rfl
         have y10 : w'.cell? ⟨w.heap.size,10,none⟩ = some (.slice A10 c.f10.length c10):=(bC_ s0_ 10).trans rfl
         go_simp
         with_reducible rfl
        rotate_left
        ·simp only [Act.put,sA_,sB_,sC_]
         rfl
        refine pure_ (i:=7) (N:=some 23) (v:=?_) (a':=?_) (zA_ 33 255) rfl rfl (by kernel_rfl) (fun _ _ _ h => by cases h.1) (Or.inl ⟨by rfl,?_⟩) ?_ ?_
        rotate_left
        ·intro w'
         go_simp
         with_reducible rfl
        rotate_left
        ·simp only [Act.put,sA_,sB_,sC_]
         rfl
        refine take_ (i:=8) (N:=some 24) (v:=?_) (a':=?_) (zA_ 33 511) rfl rfl (by kernel_rfl) (fun _ _ _ h => by cases h.1) (Or.inl ⟨by rfl,?_⟩) hHeld ?_ ?_
        rotate_left
        ·intro w' s_
         obtain ⟨s0_,s1,s2,s3⟩:=s_
         have y0 : w'.cell? ⟨g8,0,none⟩ = some (.int .u8 k):=(bC_ s1 0).trans rfl
         have y1 : w'.cell? ⟨g8,1,none⟩ = some (.int .i64 at_):=(bC_ s1 1).trans rfl
         have y2 : w'.cell? ⟨g8,2,none⟩ = some (.string nm):=(bC_ s1 2).trans rfl
         go_simp
         with_reducible rfl
        rotate_left
        ·simp only [Act.put,sA_,sB_,sC_]
         rfl
        refine one_ (i:=9) (N:=some 25) (zA_ 33 1023) rfl rfl (by kernel_rfl) (by decide) (fun K hK => ?_)
        have hcr:=HC.out.below hHeld.2.2.2
        refine goes_ Tryz.func113 (by kernel_rfl) rfl #[.agg #[.int .i64 c.f0,.slice A1 c.f1.length c1,.slice A2 c.f2.length c2,.slice A3 c.f3.length c3,.slice A4 c.f4.length c4,.slice A5 c.f5.length c5,.slice A6 c.f6.length c6,.slice A7 c.f7.length c7,.slice A8 c.f8.length c8,.slice (some ad) c.f9.length c9,.slice A10 c.f10.length c10],.int .u8 k] (by rfl) rfl rfl (by (try simp only [List.map_toArray,List.map_cons,List.map_nil]);first|done|rfl) ?_
        with_reducible refine (shape_many.calls c.f0 A1 c1 c.f1 A2 c2 c.f2 A3 c3 c.f3 A4 c4 c.f4 A5 c5 c.f5 A6 c6 c.f6 A7 c7 c.f7 A8 c8 c.f8 (some ad) c9 c.f9 A10 c10 c.f10 k (manyF c k) _ hcr.r1 HCAP.out.k1 hcr.r2 HCAP.out.k2 hcr.r3 HCAP.out.k3 hcr.r4 HCAP.out.k4 hcr.r5 HCAP.out.k5 hcr.r6 HCAP.out.k6 hcr.r7 HCAP.out.k7 hcr.r8 HCAP.out.k8 hcr.r9 HCAP.out.k9 hcr.r10 HCAP.out.k10 (many_f c k)).mono ?_
        rintro e w9 ⟨rfl,hb⟩
        refine ⟨_,rfl,?_⟩
        have hHn:=And.intro ((hb.block _ (Array.getElem?_eq_some_iff.1 hHeld.1).1).trans hHeld.1) (And.intro ((hb.block _ (Array.getElem?_eq_some_iff.1 hHeld.2.1).1).trans hHeld.2.1) (And.intro ((hb.block _ (Array.getElem?_eq_some_iff.1 hHeld.2.2.1).1).trans hHeld.2.2.1) (hHeld.2.2.2.trans (hb.mono hHeld.2.2.2.size))))
        clear hHeld hb hcr
        refine hK.out _ _ hHn (fun hHeld => ?_)
        clear hK K hHn
        refine norm_ (a':=?_) ?_ ?_
        rotate_left
        ·simp only [Act.put,sA_,sB_,sC_]
         rfl
        refine pure_ (i:=10) (N:=some 26) (v:=?_) (a':=?_) (zA_ 33 2047) rfl rfl (by kernel_rfl) (fun _ _ _ h => by cases h.1) (Or.inl ⟨by rfl,?_⟩) ?_ ?_
        rotate_left
        ·intro w'
         go_simp
         with_reducible rfl
        rotate_left
        ·simp only [Act.put,sA_,sB_,sC_]
         rfl
        refine pure_ (i:=11) (N:=some 27) (v:=?_) (a':=?_) (zA_ 33 4095) rfl rfl (by kernel_rfl) (fun _ _ _ h => by cases h.1) (Or.inl ⟨by rfl,?_⟩) ?_ ?_
        rotate_left
        ·intro w'
         go_simp
         with_reducible rfl
        rotate_left
        ·simp only [Act.put,sA_,sB_,sC_]
         rfl
        refine pure_ (i:=12) (N:=some 28) (v:=?_) (a':=?_) (zA_ 33 8191) rfl rfl (by kernel_rfl) (fun _ _ _ h => by cases h.1) (Or.inl ⟨by rfl,?_⟩) ?_ ?_
        rotate_left
        ·intro w'
         go_simp
         with_reducible rfl
        rotate_left
        ·simp only [Act.put,sA_,sB_,sC_]
         rfl
        refine pure_ (i:=13) (N:=some 29) (v:=?_) (a':=?_) (zA_ 33 16383) rfl rfl (by kernel_rfl) (fun _ _ _ h => by cases h.1) (Or.inl ⟨by rfl,?_⟩) ?_ ?_
        rotate_left
        ·intro w'
         go_simp
         with_reducible rfl
        rotate_left
        ·simp only [Act.put,sA_,sB_,sC_]
         rfl
        refine take_ (i:=14) (N:=some 30) (v:=?_) (a':=?_) (zA_ 33 32767) rfl rfl (by kernel_rfl) (fun _ _ _ h => by cases h.1) (Or.inl ⟨by rfl,?_⟩) hHeld ?_ ?_
        rotate_left
        ·intro w' s_
         obtain ⟨s0_,s1,s2,s3⟩:=s_
         have y0 : w'.cell? ⟨g8,0,none⟩ = some (.int .u8 k):=(bC_ s1 0).trans rfl
         have y1 : w'.cell? ⟨g8,1,none⟩ = some (.int .i64 at_):=(bC_ s1 1).trans rfl
         have y2 : w'.cell? ⟨g8,2,none⟩ = some (.string nm):=(bC_ s1 2).trans rfl
         go_simp
         with_reducible rfl
        rotate_left
        ·simp only [Act.put,sA_,sB_,sC_]
         rfl
        refine pure_ (i:=15) (N:=some 31) (v:=?_) (a':=?_) (zA_ 33 65535) rfl rfl (by kernel_rfl) (fun _ _ _ h => by cases h.1) (Or.inl ⟨by rfl,?_⟩) ?_ ?_
        rotate_left
        ·intro w'
         go_simp
         with_reducible rfl
        rotate_left
        ·simp only [Act.put,sA_,sB_,sC_]
         rfl
        refine pure_ (i:=16) (N:=some 32) (v:=?_) (a':=?_) (zA_ 33 131071) rfl rfl (by kernel_rfl) (fun _ _ _ h => by cases h.1) (Or.inl ⟨by rfl,?_⟩) ?_ ?_
        rotate_left
        ·intro w'
         go_simp
         with_reducible rfl
        rotate_left
        ·simp only [Act.put,sA_,sB_,sC_]
         rfl
        refine pure_ (i:=17) (N:=some 33) (v:=?_) (a':=?_) (zA_ 33 262143) rfl rfl (by kernel_rfl) (fun _ _ _ h => by cases h.1) (Or.inl ⟨by rfl,?_⟩) ?_ ?_
        rotate_left
        ·intro w'
         go_simp
         with_reducible rfl
        rotate_left
        ·simp only [Act.put,sA_,sB_,sC_]
         rfl
        refine pure_ (i:=18) (N:=some 34) (v:=?_) (a':=?_) (zA_ 33 524287) rfl rfl (by kernel_rfl) (fun _ _ _ h => by cases h.1) (Or.inl ⟨by rfl,?_⟩) ?_ ?_
        rotate_left
        ·intro w'
         go_simp
         with_reducible rfl
        rotate_left
        ·simp only [Act.put,sA_,sB_,sC_]
         rfl
        refine take_ (i:=19) (N:=some 35) (v:=?_) (a':=?_) (zA_ 33 1048575) rfl rfl (by kernel_rfl) (fun _ _ _ h => by cases h.1) (Or.inl ⟨by rfl,?_⟩) hHeld ?_ ?_
        rotate_left
        ·intro w' s_
         obtain ⟨s0_,s1,s2,s3⟩:=s_
         have y0 : w'.cell? ⟨g8,0,none⟩ = some (.int .u8 k):=(bC_ s1 0).trans rfl
         have y1 : w'.cell? ⟨g8,1,none⟩ = some (.int .i64 at_):=(bC_ s1 1).trans rfl
         have y2 : w'.cell? ⟨g8,2,none⟩ = some (.string nm):=(bC_ s1 2).trans rfl
         go_simp
         with_reducible rfl
        rotate_left
        ·simp only [Act.put,sA_,sB_,sC_]
         rfl
        refine pure_ (i:=20) (N:=some 36) (v:=?_) (a':=?_) (zA_ 33 2097151) rfl rfl (by kernel_rfl) (fun _ _ _ h => by cases h.1) (Or.inl ⟨by rfl,?_⟩) ?_ ?_
        rotate_left
        ·intro w'
         go_simp
         with_reducible rfl
        rotate_left
        ·simp only [Act.put,sA_,sB_,sC_]
         rfl
        refine pure_ (i:=21) (N:=some 37) (v:=?_) (a':=?_) (zA_ 33 4194303) rfl rfl (by kernel_rfl) (fun _ _ _ h => by cases h.1) (Or.inl ⟨by rfl,?_⟩) ?_ ?_
        rotate_left
        ·intro w'
         go_simp
         with_reducible rfl
        rotate_left
        ·simp only [Act.put,sA_,sB_,sC_]
         rfl
        refine pure_ (i:=22) (N:=some 38) (v:=?_) (a':=?_) (zA_ 33 8388607) rfl rfl (by kernel_rfl) (fun _ _ _ h => by cases h.1) (Or.inl ⟨by rfl,?_⟩) ?_ ?_
        rotate_left
        ·intro w'
         go_simp
         with_reducible rfl
        rotate_left
        ·simp only [Act.put,sA_,sB_,sC_]
         rfl
        refine pure_ (i:=23) (N:=some 39) (v:=?_) (a':=?_) (zA_ 33 16777215) rfl rfl (by kernel_rfl) (fun _ _ _ h => by cases h.1) (Or.inl ⟨by rfl,?_⟩) ?_ ?_
        rotate_left
        ·intro w'
         go_simp
         with_reducible rfl
        rotate_left
        ·simp only [Act.put,sA_,sB_,sC_]
         rfl
        refine pure_ (i:=24) (N:=some 40) (v:=undef) (a':=?_) (zA_ 33 33554431) rfl rfl (by kernel_rfl) (fun _ _ _ h => by cases h.1) (Or.inr ⟨by rfl,rfl⟩) ?_ ?_
        rotate_left
        ·simp only [Act.put,sA_,sB_,sC_]
         rfl
        refine pure_ (i:=25) (N:=some 41) (v:=undef) (a':=?_) (zA_ 33 67108863) rfl rfl (by kernel_rfl) (fun _ _ _ h => by cases h.1) (Or.inr ⟨by rfl,rfl⟩) ?_ ?_
        rotate_left
        ·simp only [Act.put,sA_,sB_,sC_]
         rfl
        refine pure_ (i:=26) (N:=some 42) (v:=undef) (a':=?_) (zA_ 33 134217727) rfl rfl (by kernel_rfl) (fun _ _ _ h => by cases h.1) (Or.inr ⟨by rfl,rfl⟩) ?_ ?_
        rotate_left
        ·simp only [Act.put,sA_,sB_,sC_]
         rfl
        refine pure_ (i:=27) (N:=some 43) (v:=undef) (a':=?_) (zA_ 33 268435455) rfl rfl (by kernel_rfl) (fun _ _ _ h => by cases h.1) (Or.inr ⟨by rfl,rfl⟩) ?_ ?_
        rotate_left
        ·simp only [Act.put,sA_,sB_,sC_]
         rfl
        refine pure_ (i:=28) (N:=some 44) (v:=undef) (a':=?_) (zA_ 33 536870911) rfl rfl (by kernel_rfl) (fun _ _ _ h => by cases h.1) (Or.inr ⟨by rfl,rfl⟩) ?_ ?_
        rotate_left
        ·simp only [Act.put,sA_,sB_,sC_]
         rfl
        refine pure_ (i:=29) (N:=some 45) (v:=undef) (a':=?_) (zA_ 33 1073741823) rfl rfl (by kernel_rfl) (fun _ _ _ h => by cases h.1) (Or.inr ⟨by rfl,rfl⟩) ?_ ?_
        rotate_left
        ·simp only [Act.put,sA_,sB_,sC_]
         rfl
        refine pure_ (i:=30) (N:=some 46) (v:=undef) (a':=?_) (zA_ 33 2147483647) rfl rfl (by kernel_rfl) (fun _ _ _ h => by cases h.1) (Or.inr ⟨by rfl,rfl⟩) ?_ ?_
        rotate_left
        ·simp only [Act.put,sA_,sB_,sC_]
         rfl
        refine pure_ (i:=31) (N:=some 47) (v:=undef) (a':=?_) (zA_ 33 4294967295) rfl rfl (by kernel_rfl) (fun _ _ _ h => by cases h.1) (Or.inr ⟨by rfl,rfl⟩) ?_ ?_
        rotate_left
        ·simp only [Act.put,sA_,sB_,sC_]
         rfl
        refine pure_ (i:=32) (N:=some 48) (v:=?_) (a':=?_) (zA_ 33 8589934591) rfl rfl (by kernel_rfl) (fun _ _ _ h => by cases h.1) (Or.inl ⟨by rfl,?_⟩) ?_ ?_
        rotate_left
        ·intro w'
         go_simp
         with_reducible rfl
        rotate_left
        ·simp only [Act.put,sA_,sB_,sC_]
         rfl
        refine done_ (by kernel_rfl) ⟨rfl,?_⟩
        rename_i hKK
        refine hKK _ _ ?_
        clear hKK
        go_wp2
        repeat (go_quiet (fail);try go_wp2)
        go_ret
        exact ⟨rfl,hHeld.2.2.2⟩
       ·have u4b : decide ((64 : Int) < (nm.size : Int)) = false:=decide_eq_false (by omega)
        by_cases u5 : seen.any (same175 ⟨k,at_⟩) = true
        ·have hb : symBad c seen ⟨k,at_,nm⟩ = true:=by
          unfold symBad
          dsimp only
          rw [u5]
          simp
         rw [if_pos hb] at hr
         subst hr
         have HLK2 : A0_ (∀ W : World,W.heap[w.heap.size + 1]? = some (.map (esOf seen) n) → (Instr.lookup 156 (.map (some (w.heap.size + 1))) (.agg #[.int .u8 k,.int .i64 at_]) false).run Tryz.prog W = .ok (.int .i64 1) W):=⟨fun W hW => by have h:=HLK.out W hW;rw [if_pos u5] at h;exact h⟩
         clear HLK hb u2 u1 u3 u4 u5
         have HLK:=HLK2
         clear HLK2
         refine wp_normal' ?_
         refine start_ (n:=33) (S:=fun w' => w'.heap[w.heap.size]? = some (.cells #[.int .i64 c.f0,.slice A1 c.f1.length c1,.slice A2 c.f2.length c2,.slice A3 c.f3.length c3,.slice A4 c.f4.length c4,.slice A5 c.f5.length c5,.slice A6 c.f6.length c6,.slice A7 c.f7.length c7,.slice A8 c.f8.length c8,.slice (some ad) c.f9.length c9,.slice A10 c.f10.length c10] 29 (0,0)) ∧ w'.heap[g8]? = some (.cells #[.int .u8 k,.int .i64 at_,.string nm] 77 (0,0)) ∧ w'.heap[w.heap.size + 1]? = some (.map (esOf seen) n) ∧ Below w.heap.size w w') (ds:=[]) (Array.replicate 33 false) (by kernel_rfl) rfl rfl ⟨HC1.out,HC8.out,HC2.out,below_drew HB8.out⟩ (fun hHeld => ?_)
         refine pure_ (i:=0) (N:=some 16) (v:=?_) (a':=?_) (zA_ 33 1) rfl rfl (by kernel_rfl) (fun _ _ _ h => by cases h.1) (Or.inl ⟨by rfl,?_⟩) ?_ ?_
         rotate_left
         ·intro w'
          go_simp
          with_reducible rfl
         rotate_left
         ·simp only [Act.put,sA_,sB_,sC_]
          rfl
         refine take_ (i:=1) (N:=some 17) (v:=?_) (a':=?_) (zA_ 33 3) rfl rfl (by kernel_rfl) (fun _ _ _ h => by cases h.1) (Or.inl ⟨by rfl,?_⟩) hHeld ?_ ?_
         rotate_left
         ·intro w' s_
          obtain ⟨s0_,s1,s2,s3⟩:=s_
          have y0 : w'.cell? ⟨g8,0,none⟩ = some (.int .u8 k):=(bC_ s1 0).trans rfl
          have y1 : w'.cell? ⟨g8,1,none⟩ = some (.int .i64 at_):=(bC_ s1 1).trans rfl
          have y2 : w'.cell? ⟨g8,2,none⟩ = some (.string nm):=(bC_ s1 2).trans rfl
          go_simp
          with_reducible rfl
         rotate_left
         ·simp only [Act.put,sA_,sB_,sC_]
          rfl
         refine pure_ (i:=2) (N:=some 18) (v:=?_) (a':=?_) (zA_ 33 7) rfl rfl (by kernel_rfl) (fun _ _ _ h => by cases h.1) (Or.inl ⟨by rfl,?_⟩) ?_ ?_
         rotate_left
         ·intro w'
          go_simp
          with_reducible rfl
         rotate_left
         ·simp only [Act.put,sA_,sB_,sC_]
          rfl
         refine pure_ (i:=3) (N:=some 19) (v:=?_) (a':=?_) (zA_ 33 15) rfl rfl (by kernel_rfl) (fun _ _ _ h => by cases h.1) (Or.inl ⟨by rfl,?_⟩) ?_ ?_
         rotate_left
         ·intro w'
          go_simp
          with_reducible rfl
         rotate_left
         ·simp only [Act.put,sA_,sB_,sC_]
          rfl
         refine pure_ (i:=4) (N:=some 20) (v:=?_) (a':=?_) (zA_ 33 31) rfl rfl (by kernel_rfl) (fun _ _ _ h => by cases h.1) (Or.inl ⟨by rfl,?_⟩) ?_ ?_
         rotate_left
         ·intro w'
          go_simp
          with_reducible rfl
         rotate_left
         ·simp only [Act.put,sA_,sB_,sC_]
          rfl
         refine take_ (i:=5) (N:=some 21) (v:=?_) (a':=?_) (zA_ 33 63) rfl rfl (by kernel_rfl) (fun _ _ _ h => by cases h.1) (Or.inl ⟨by rfl,?_⟩) hHeld ?_ ?_
         rotate_left
         ·intro w' s_
          obtain ⟨s0_,s1,s2,s3⟩:=s_
          have y0 : w'.cell? ⟨g8,0,none⟩ = some (.int .u8 k):=(bC_ s1 0).trans rfl
          have y1 : w'.cell? ⟨g8,1,none⟩ = some (.int .i64 at_):=(bC_ s1 1).trans rfl
          have y2 : w'.cell? ⟨g8,2,none⟩ = some (.string nm):=(bC_ s1 2).trans rfl
          go_simp
          with_reducible rfl
         rotate_left
         ·simp only [Act.put,sA_,sB_,sC_]
          rfl
         refine take_ (i:=6) (N:=some 22) (v:=?_) (a':=?_) (zA_ 33 127) rfl rfl (by kernel_rfl) (fun _ _ _ h => by cases h.1) (Or.inl ⟨by rfl,?_⟩) hHeld ?_ ?_
         rotate_left
         ·intro w' s_
          obtain ⟨s0_,s1,s2,s3⟩:=s_
          have y0 : w'.cell? ⟨w.heap.size,0,none⟩ = some (.int .i64 c.f0):=(bC_ s0_ 0).trans rfl
          have y1 : w'.cell? ⟨w.heap.size,1,none⟩ = some (.slice A1 c.f1.length c1):=(bC_ s0_ 1).trans rfl
          have y2 : w'.cell? ⟨w.heap.size,2,none⟩ = some (.slice A2 c.f2.length c2):=(bC_ s0_ 2).trans rfl
          have y3 : w'.cell? ⟨w.heap.size,3,none⟩ = some (.slice A3 c.f3.length c3):=(bC_ s0_ 3).trans rfl
          have y4 : w'.cell? ⟨w.heap.size,4,none⟩ = some (.slice A4 c.f4.length c4):=(bC_ s0_ 4).trans rfl
          have y5 : w'.cell? ⟨w.heap.size,5,none⟩ = some (.slice A5 c.f5.length c5):=(bC_ s0_ 5).trans rfl
          have y6 : w'.cell? ⟨w.heap.size,6,none⟩ = some (.slice A6 c.f6.length c6):=(bC_ s0_ 6).trans rfl
          have y7 : w'.cell? ⟨w.heap.size,7,none⟩ = some (.slice A7 c.f7.length c7):=(bC_ s0_ 7).trans rfl
          have y8 : w'.cell? ⟨w.heap.size,8,none⟩ = some (.slice A8 c.f8.length c8):=(bC_ s0_ 8).trans rfl
          have y9 : w'.cell? ⟨w.heap.size,9,none⟩ = some (.slice (some ad) c.f9.length c9):=(bC_ s0_ 9).trans rfl
          have y10 : w'.cell? ⟨w.heap.size,10,none⟩ = some (.slice A10 c.f10.length c10):=(bC_ s0_ 10).trans rfl
          go_simp
          with_reducible rfl
         rotate_left
         ·simp only [Act.put,sA_,sB_,sC_]
          rfl
         refine pure_ (i:=7) (N:=some 23) (v:=?_) (a':=?_) (zA_ 33 255) rfl rfl (by kernel_rfl) (fun _ _ _ h => by cases h.1) (Or.inl ⟨by rfl,?_⟩) ?_ ?_
         rotate_left
         ·intro w'
          go_simp
          with_reducible rfl
         rotate_left
         ·simp only [Act.put,sA_,sB_,sC_]
          rfl
         refine take_ (i:=8) (N:=some 24) (v:=?_) (a':=?_) (zA_ 33 511) rfl rfl (by kernel_rfl) (fun _ _ _ h => by cases h.1) (Or.inl ⟨by rfl,?_⟩) hHeld ?_ ?_
         rotate_left
         ·intro w' s_
          obtain ⟨s0_,s1,s2,s3⟩:=s_
          have y0 : w'.cell? ⟨g8,0,none⟩ = some (.int .u8 k):=(bC_ s1 0).trans rfl
          have y1 : w'.cell? ⟨g8,1,none⟩ = some (.int .i64 at_):=(bC_ s1 1).trans rfl
          have y2 : w'.cell? ⟨g8,2,none⟩ = some (.string nm):=(bC_ s1 2).trans rfl
          go_simp
          with_reducible rfl
         rotate_left
         ·simp only [Act.put,sA_,sB_,sC_]
          rfl
         refine one_ (i:=9) (N:=some 25) (zA_ 33 1023) rfl rfl (by kernel_rfl) (by decide) (fun K hK => ?_)
         have hcr:=HC.out.below hHeld.2.2.2
         refine goes_ Tryz.func113 (by kernel_rfl) rfl #[.agg #[.int .i64 c.f0,.slice A1 c.f1.length c1,.slice A2 c.f2.length c2,.slice A3 c.f3.length c3,.slice A4 c.f4.length c4,.slice A5 c.f5.length c5,.slice A6 c.f6.length c6,.slice A7 c.f7.length c7,.slice A8 c.f8.length c8,.slice (some ad) c.f9.length c9,.slice A10 c.f10.length c10],.int .u8 k] (by rfl) rfl rfl (by (try simp only [List.map_toArray,List.map_cons,List.map_nil]);first|done|rfl) ?_
         with_reducible refine (shape_many.calls c.f0 A1 c1 c.f1 A2 c2 c.f2 A3 c3 c.f3 A4 c4 c.f4 A5 c5 c.f5 A6 c6 c.f6 A7 c7 c.f7 A8 c8 c.f8 (some ad) c9 c.f9 A10 c10 c.f10 k (manyF c k) _ hcr.r1 HCAP.out.k1 hcr.r2 HCAP.out.k2 hcr.r3 HCAP.out.k3 hcr.r4 HCAP.out.k4 hcr.r5 HCAP.out.k5 hcr.r6 HCAP.out.k6 hcr.r7 HCAP.out.k7 hcr.r8 HCAP.out.k8 hcr.r9 HCAP.out.k9 hcr.r10 HCAP.out.k10 (many_f c k)).mono ?_
         rintro e w9 ⟨rfl,hb⟩
         refine ⟨_,rfl,?_⟩
         have hHn:=And.intro ((hb.block _ (Array.getElem?_eq_some_iff.1 hHeld.1).1).trans hHeld.1) (And.intro ((hb.block _ (Array.getElem?_eq_some_iff.1 hHeld.2.1).1).trans hHeld.2.1) (And.intro ((hb.block _ (Array.getElem?_eq_some_iff.1 hHeld.2.2.1).1).trans hHeld.2.2.1) (hHeld.2.2.2.trans (hb.mono hHeld.2.2.2.size))))
         clear hHeld hb hcr
         refine hK.out _ _ hHn (fun hHeld => ?_)
         clear hK K hHn
         refine norm_ (a':=?_) ?_ ?_
         rotate_left
         ·simp only [Act.put,sA_,sB_,sC_]
          rfl
         refine pure_ (i:=10) (N:=some 26) (v:=?_) (a':=?_) (zA_ 33 2047) rfl rfl (by kernel_rfl) (fun _ _ _ h => by cases h.1) (Or.inl ⟨by rfl,?_⟩) ?_ ?_
         rotate_left
         ·intro w'
          go_simp
          with_reducible rfl
         rotate_left
         ·simp only [Act.put,sA_,sB_,sC_]
          rfl
         refine pure_ (i:=11) (N:=some 27) (v:=?_) (a':=?_) (zA_ 33 4095) rfl rfl (by kernel_rfl) (fun _ _ _ h => by cases h.1) (Or.inl ⟨by rfl,?_⟩) ?_ ?_
         rotate_left
         ·intro w'
          go_simp
          with_reducible rfl
         rotate_left
         ·simp only [Act.put,sA_,sB_,sC_]
          rfl
         refine pure_ (i:=12) (N:=some 28) (v:=?_) (a':=?_) (zA_ 33 8191) rfl rfl (by kernel_rfl) (fun _ _ _ h => by cases h.1) (Or.inl ⟨by rfl,?_⟩) ?_ ?_
         rotate_left
         ·intro w'
          go_simp
          with_reducible rfl
         rotate_left
         ·simp only [Act.put,sA_,sB_,sC_]
          rfl
         refine pure_ (i:=13) (N:=some 29) (v:=?_) (a':=?_) (zA_ 33 16383) rfl rfl (by kernel_rfl) (fun _ _ _ h => by cases h.1) (Or.inl ⟨by rfl,?_⟩) ?_ ?_
         rotate_left
         ·intro w'
          go_simp
          with_reducible rfl
         rotate_left
         ·simp only [Act.put,sA_,sB_,sC_]
          rfl
         refine take_ (i:=14) (N:=some 30) (v:=?_) (a':=?_) (zA_ 33 32767) rfl rfl (by kernel_rfl) (fun _ _ _ h => by cases h.1) (Or.inl ⟨by rfl,?_⟩) hHeld ?_ ?_
         rotate_left
         ·intro w' s_
          obtain ⟨s0_,s1,s2,s3⟩:=s_
          have y0 : w'.cell? ⟨g8,0,none⟩ = some (.int .u8 k):=(bC_ s1 0).trans rfl
          have y1 : w'.cell? ⟨g8,1,none⟩ = some (.int .i64 at_):=(bC_ s1 1).trans rfl
          have y2 : w'.cell? ⟨g8,2,none⟩ = some (.string nm):=(bC_ s1 2).trans rfl
          go_simp
          with_reducible rfl
         rotate_left
         ·simp only [Act.put,sA_,sB_,sC_]
          rfl
         refine pure_ (i:=15) (N:=some 31) (v:=?_) (a':=?_) (zA_ 33 65535) rfl rfl (by kernel_rfl) (fun _ _ _ h => by cases h.1) (Or.inl ⟨by rfl,?_⟩) ?_ ?_
         rotate_left
         ·intro w'
          go_simp
          with_reducible rfl
         rotate_left
         ·simp only [Act.put,sA_,sB_,sC_]
          rfl
         refine pure_ (i:=16) (N:=some 32) (v:=?_) (a':=?_) (zA_ 33 131071) rfl rfl (by kernel_rfl) (fun _ _ _ h => by cases h.1) (Or.inl ⟨by rfl,?_⟩) ?_ ?_
         rotate_left
         ·intro w'
          go_simp
          with_reducible rfl
         rotate_left
         ·simp only [Act.put,sA_,sB_,sC_]
          rfl
         refine pure_ (i:=17) (N:=some 33) (v:=?_) (a':=?_) (zA_ 33 262143) rfl rfl (by kernel_rfl) (fun _ _ _ h => by cases h.1) (Or.inl ⟨by rfl,?_⟩) ?_ ?_
         rotate_left
         ·intro w'
          go_simp
          with_reducible rfl
         rotate_left
         ·simp only [Act.put,sA_,sB_,sC_]
          rfl
         refine pure_ (i:=18) (N:=some 34) (v:=?_) (a':=?_) (zA_ 33 524287) rfl rfl (by kernel_rfl) (fun _ _ _ h => by cases h.1) (Or.inl ⟨by rfl,?_⟩) ?_ ?_
         rotate_left
         ·intro w'
          go_simp
          with_reducible rfl
         rotate_left
         ·simp only [Act.put,sA_,sB_,sC_]
          rfl
         refine take_ (i:=19) (N:=some 35) (v:=?_) (a':=?_) (zA_ 33 1048575) rfl rfl (by kernel_rfl) (fun _ _ _ h => by cases h.1) (Or.inl ⟨by rfl,?_⟩) hHeld ?_ ?_
         rotate_left
         ·intro w' s_
          obtain ⟨s0_,s1,s2,s3⟩:=s_
          have y0 : w'.cell? ⟨g8,0,none⟩ = some (.int .u8 k):=(bC_ s1 0).trans rfl
          have y1 : w'.cell? ⟨g8,1,none⟩ = some (.int .i64 at_):=(bC_ s1 1).trans rfl
          have y2 : w'.cell? ⟨g8,2,none⟩ = some (.string nm):=(bC_ s1 2).trans rfl
          go_simp
          with_reducible rfl
         rotate_left
         ·simp only [Act.put,sA_,sB_,sC_]
          rfl
         refine pure_ (i:=20) (N:=some 36) (v:=?_) (a':=?_) (zA_ 33 2097151) rfl rfl (by kernel_rfl) (fun _ _ _ h => by cases h.1) (Or.inl ⟨by rfl,?_⟩) ?_ ?_
         rotate_left
         ·intro w'
          go_simp
          with_reducible rfl
         rotate_left
         ·simp only [Act.put,sA_,sB_,sC_]
          rfl
         refine pure_ (i:=21) (N:=some 37) (v:=?_) (a':=?_) (zA_ 33 4194303) rfl rfl (by kernel_rfl) (fun _ _ _ h => by cases h.1) (Or.inl ⟨by rfl,?_⟩) ?_ ?_
         rotate_left
         ·intro w'
          go_simp
          with_reducible rfl
         rotate_left
         ·simp only [Act.put,sA_,sB_,sC_]
          rfl
         refine pure_ (i:=22) (N:=some 38) (v:=?_) (a':=?_) (zA_ 33 8388607) rfl rfl (by kernel_rfl) (fun _ _ _ h => by cases h.1) (Or.inl ⟨by rfl,?_⟩) ?_ ?_
         rotate_left
         ·intro w'
          go_simp
          with_reducible rfl
         rotate_left
         ·simp only [Act.put,sA_,sB_,sC_]
          rfl
         refine pure_ (i:=23) (N:=some 39) (v:=?_) (a':=?_) (zA_ 33 16777215) rfl rfl (by kernel_rfl) (fun _ _ _ h => by cases h.1) (Or.inl ⟨by rfl,?_⟩) ?_ ?_
         rotate_left
         ·intro w'
          go_simp
          with_reducible rfl
         rotate_left
         ·simp only [Act.put,sA_,sB_,sC_]
          rfl
         refine pure_ (i:=24) (N:=some 40) (v:=?_) (a':=?_) (zA_ 33 33554431) rfl rfl (by kernel_rfl) (fun _ _ _ h => by cases h.1) (Or.inl ⟨by rfl,?_⟩) ?_ ?_
         rotate_left
         ·intro w'
          go_simp
          with_reducible rfl
         rotate_left
         ·simp only [Act.put,sA_,sB_,sC_]
          rfl
         refine pure_ (i:=25) (N:=some 41) (v:=?_) (a':=?_) (zA_ 33 67108863) rfl rfl (by kernel_rfl) (fun _ _ _ h => by cases h.1) (Or.inl ⟨by rfl,?_⟩) ?_ ?_
         rotate_left
         ·intro w'
          go_simp
          with_reducible rfl
         rotate_left
         ·simp only [Act.put,sA_,sB_,sC_]
          rfl
         refine take_ (i:=26) (N:=some 42) (v:=?_) (a':=?_) (zA_ 33 134217727) rfl rfl (by kernel_rfl) (fun _ _ _ h => by cases h.1) (Or.inl ⟨by rfl,?_⟩) hHeld ?_ ?_
         rotate_left
         ·intro w' s_
          obtain ⟨s0_,s1,s2,s3⟩:=s_
          have y0 : w'.cell? ⟨g8,0,none⟩ = some (.int .u8 k):=(bC_ s1 0).trans rfl
          have y1 : w'.cell? ⟨g8,1,none⟩ = some (.int .i64 at_):=(bC_ s1 1).trans rfl
          have y2 : w'.cell? ⟨g8,2,none⟩ = some (.string nm):=(bC_ s1 2).trans rfl
          go_simp
          with_reducible rfl
         rotate_left
         ·simp only [Act.put,sA_,sB_,sC_]
          rfl
         refine pure_ (i:=27) (N:=some 43) (v:=?_) (a':=?_) (zA_ 33 268435455) rfl rfl (by kernel_rfl) (fun _ _ _ h => by cases h.1) (Or.inl ⟨by rfl,?_⟩) ?_ ?_
         rotate_left
         ·intro w'
          go_simp
          with_reducible rfl
         rotate_left
         ·simp only [Act.put,sA_,sB_,sC_]
          rfl
         refine take_ (i:=28) (N:=some 44) (v:=?_) (a':=?_) (zA_ 33 536870911) rfl rfl (by kernel_rfl) (fun _ _ _ h => by cases h.1) (Or.inl ⟨by rfl,?_⟩) hHeld ?_ ?_
         rotate_left
         ·intro w' s_
          obtain ⟨s0_,s1,s2,s3⟩:=s_
          have y0 : w'.cell? ⟨g8,0,none⟩ = some (.int .u8 k):=(bC_ s1 0).trans rfl
          have y1 : w'.cell? ⟨g8,1,none⟩ = some (.int .i64 at_):=(bC_ s1 1).trans rfl
          have y2 : w'.cell? ⟨g8,2,none⟩ = some (.string nm):=(bC_ s1 2).trans rfl
          go_simp
          with_reducible rfl
         rotate_left
         ·simp only [Act.put,sA_,sB_,sC_]
          rfl
         refine pure_ (i:=29) (N:=some 45) (v:=?_) (a':=?_) (zA_ 33 1073741823) rfl rfl (by kernel_rfl) (fun _ _ _ h => by cases h.1) (Or.inl ⟨by rfl,?_⟩) ?_ ?_
         rotate_left
         ·intro w'
          go_simp
          with_reducible rfl
         rotate_left
         ·simp only [Act.put,sA_,sB_,sC_]
          rfl
         refine take_ (i:=30) (N:=some 46) (v:=?_) (a':=?_) (zA_ 33 2147483647) rfl rfl (by kernel_rfl) (fun _ _ _ h => by cases h.1) (Or.inl ⟨by rfl,?_⟩) hHeld ?_ ?_
         rotate_left
         ·intro w' s_
          obtain ⟨s0_,s1,s2,s3⟩:=s_
          have hlk:=HLK.out w' s2
          go_simp
          with_reducible rfl
         rotate_left
         ·simp only [Act.put,sA_,sB_,sC_]
          rfl
         refine pure_ (i:=31) (N:=some 47) (v:=?_) (a':=?_) (zA_ 33 4294967295) rfl rfl (by kernel_rfl) (fun _ _ _ h => by cases h.1) (Or.inl ⟨by rfl,?_⟩) ?_ ?_
         rotate_left
         ·intro w'
          go_simp
          with_reducible rfl
         rotate_left
         ·simp only [Act.put,sA_,sB_,sC_]
          rfl
         refine pure_ (i:=32) (N:=some 48) (v:=?_) (a':=?_) (zA_ 33 8589934591) rfl rfl (by kernel_rfl) (fun _ _ _ h => by cases h.1) (Or.inl ⟨by rfl,?_⟩) ?_ ?_
         rotate_left
         ·intro w'
          go_simp
          with_reducible rfl
         rotate_left
         ·simp only [Act.put,sA_,sB_,sC_]
          rfl
         refine done_ (by kernel_rfl) ⟨rfl,?_⟩
         rename_i hKK
         refine hKK _ _ ?_
         clear hKK
         go_wp2
         repeat (go_quiet (fail);try go_wp2)
         go_ret
         exact ⟨rfl,hHeld.2.2.2⟩
        ·have u5 : seen.any (same175 ⟨k,at_⟩) = false:=by
          rename_i u5
          simpa using u5
         have HLK2 : A0_ (∀ W : World,W.heap[w.heap.size + 1]? = some (.map (esOf seen) n) → (Instr.lookup 156 (.map (some (w.heap.size + 1))) (.agg #[.int .u8 k,.int .i64 at_]) false).run Tryz.prog W = .ok (.int .i64 0) W):=⟨fun W hW => by have h:=HLK.out W hW;rw [if_neg (by rw [u5];decide)] at h;exact h⟩
         have hsb : symBad c seen ⟨k,at_,nm⟩ = nm.data.toList.any (fun x => decide (x.toNat < 32)):=by
          unfold symBad
          dsimp only
          rw [u5,decide_eq_false u1,decide_eq_false u2,decide_eq_false u3,decide_eq_false u4]
          simp
         rw [hsb] at hr
         have HS:=A0_.mk hr
         have U5:=A0_.mk u5
         have U4:=A0_.mk u4
         clear HLK hr hsb u2 u1 u3 u4 u5
         have HLK:=HLK2
         clear HLK2
         refine wp_normal' ?_
         refine start_ (n:=33) (S:=fun w' => w'.heap[w.heap.size]? = some (.cells #[.int .i64 c.f0,.slice A1 c.f1.length c1,.slice A2 c.f2.length c2,.slice A3 c.f3.length c3,.slice A4 c.f4.length c4,.slice A5 c.f5.length c5,.slice A6 c.f6.length c6,.slice A7 c.f7.length c7,.slice A8 c.f8.length c8,.slice (some ad) c.f9.length c9,.slice A10 c.f10.length c10] 29 (0,0)) ∧ w'.heap[g8]? = some (.cells #[.int .u8 k,.int .i64 at_,.string nm] 77 (0,0)) ∧ w'.heap[w.heap.size + 1]? = some (.map (esOf seen) n) ∧ Below w.heap.size w w') (ds:=[]) (Array.replicate 33 false) (by kernel_rfl) rfl rfl ⟨HC1.out,HC8.out,HC2.out,below_drew HB8.out⟩ (fun hHeld => ?_)
         refine pure_ (i:=0) (N:=some 16) (v:=?_) (a':=?_) (zA_ 33 1) rfl rfl (by kernel_rfl) (fun _ _ _ h => by cases h.1) (Or.inl ⟨by rfl,?_⟩) ?_ ?_
         rotate_left
         ·intro w'
          go_simp
          with_reducible rfl
         rotate_left
         ·simp only [Act.put,sA_,sB_,sC_]
          rfl
         refine take_ (i:=1) (N:=some 17) (v:=?_) (a':=?_) (zA_ 33 3) rfl rfl (by kernel_rfl) (fun _ _ _ h => by cases h.1) (Or.inl ⟨by rfl,?_⟩) hHeld ?_ ?_
         rotate_left
         ·intro w' s_
          obtain ⟨s0_,s1,s2,s3⟩:=s_
          have y0 : w'.cell? ⟨g8,0,none⟩ = some (.int .u8 k):=(bC_ s1 0).trans rfl
          have y1 : w'.cell? ⟨g8,1,none⟩ = some (.int .i64 at_):=(bC_ s1 1).trans rfl
          have y2 : w'.cell? ⟨g8,2,none⟩ = some (.string nm):=(bC_ s1 2).trans rfl
          go_simp
          with_reducible rfl
         rotate_left
         ·simp only [Act.put,sA_,sB_,sC_]
          rfl
         refine pure_ (i:=2) (N:=some 18) (v:=?_) (a':=?_) (zA_ 33 7) rfl rfl (by kernel_rfl) (fun _ _ _ h => by cases h.1) (Or.inl ⟨by rfl,?_⟩) ?_ ?_
         rotate_left
         ·intro w'
          go_simp
          with_reducible rfl
         rotate_left
         ·simp only [Act.put,sA_,sB_,sC_]
          rfl
         refine pure_ (i:=3) (N:=some 19) (v:=?_) (a':=?_) (zA_ 33 15) rfl rfl (by kernel_rfl) (fun _ _ _ h => by cases h.1) (Or.inl ⟨by rfl,?_⟩) ?_ ?_
         rotate_left
         ·intro w'
          go_simp
          with_reducible rfl
         rotate_left
         ·simp only [Act.put,sA_,sB_,sC_]
          rfl
         refine pure_ (i:=4) (N:=some 20) (v:=?_) (a':=?_) (zA_ 33 31) rfl rfl (by kernel_rfl) (fun _ _ _ h => by cases h.1) (Or.inl ⟨by rfl,?_⟩) ?_ ?_
         rotate_left
         ·intro w'
          go_simp
          with_reducible rfl
         rotate_left
         ·simp only [Act.put,sA_,sB_,sC_]
          rfl
         refine take_ (i:=5) (N:=some 21) (v:=?_) (a':=?_) (zA_ 33 63) rfl rfl (by kernel_rfl) (fun _ _ _ h => by cases h.1) (Or.inl ⟨by rfl,?_⟩) hHeld ?_ ?_
         rotate_left
         ·intro w' s_
          obtain ⟨s0_,s1,s2,s3⟩:=s_
          have y0 : w'.cell? ⟨g8,0,none⟩ = some (.int .u8 k):=(bC_ s1 0).trans rfl
          have y1 : w'.cell? ⟨g8,1,none⟩ = some (.int .i64 at_):=(bC_ s1 1).trans rfl
          have y2 : w'.cell? ⟨g8,2,none⟩ = some (.string nm):=(bC_ s1 2).trans rfl
          go_simp
          with_reducible rfl
         rotate_left
         ·simp only [Act.put,sA_,sB_,sC_]
          rfl
         refine take_ (i:=6) (N:=some 22) (v:=?_) (a':=?_) (zA_ 33 127) rfl rfl (by kernel_rfl) (fun _ _ _ h => by cases h.1) (Or.inl ⟨by rfl,?_⟩) hHeld ?_ ?_
         rotate_left
         ·intro w' s_
          obtain ⟨s0_,s1,s2,s3⟩:=s_
          have y0 : w'.cell? ⟨w.heap.size,0,none⟩ = some (.int .i64 c.f0):=(bC_ s0_ 0).trans rfl
          have y1 : w'.cell? ⟨w.heap.size,1,none⟩ = some (.slice A1 c.f1.length c1):=(bC_ s0_ 1).trans rfl
          have y2 : w'.cell? ⟨w.heap.size,2,none⟩ = some (.slice A2 c.f2.length c2):=(bC_ s0_ 2).trans rfl
          have y3 : w'.cell? ⟨w.heap.size,3,none⟩ = some (.slice A3 c.f3.length c3):=(bC_ s0_ 3).trans rfl
          have y4 : w'.cell? ⟨w.heap.size,4,none⟩ = some (.slice A4 c.f4.length c4):=(bC_ s0_ 4).trans rfl
          have y5 : w'.cell? ⟨w.heap.size,5,none⟩ = some (.slice A5 c.f5.length c5):=(bC_ s0_ 5).trans rfl
          have y6 : w'.cell? ⟨w.heap.size,6,none⟩ = some (.slice A6 c.f6.length c6):=(bC_ s0_ 6).trans rfl
          have y7 : w'.cell? ⟨w.heap.size,7,none⟩ = some (.slice A7 c.f7.length c7):=(bC_ s0_ 7).trans rfl
          have y8 : w'.cell? ⟨w.heap.size,8,none⟩ = some (.slice A8 c.f8.length c8):=(bC_ s0_ 8).trans rfl
          have y9 : w'.cell? ⟨w.heap.size,9,none⟩ = some (.slice (some ad) c.f9.length c9):=(bC_ s0_ 9).trans rfl
          have y10 : w'.cell? ⟨w.heap.size,10,none⟩ = some (.slice A10 c.f10.length c10):=(bC_ s0_ 10).trans rfl
          go_simp
          with_reducible rfl
         rotate_left
         ·simp only [Act.put,sA_,sB_,sC_]
          rfl
         refine pure_ (i:=7) (N:=some 23) (v:=?_) (a':=?_) (zA_ 33 255) rfl rfl (by kernel_rfl) (fun _ _ _ h => by cases h.1) (Or.inl ⟨by rfl,?_⟩) ?_ ?_
         rotate_left
         ·intro w'
          go_simp
          with_reducible rfl
         rotate_left
         ·simp only [Act.put,sA_,sB_,sC_]
          rfl
         refine take_ (i:=8) (N:=some 24) (v:=?_) (a':=?_) (zA_ 33 511) rfl rfl (by kernel_rfl) (fun _ _ _ h => by cases h.1) (Or.inl ⟨by rfl,?_⟩) hHeld ?_ ?_
         rotate_left
         ·intro w' s_
          obtain ⟨s0_,s1,s2,s3⟩:=s_
          have y0 : w'.cell? ⟨g8,0,none⟩ = some (.int .u8 k):=(bC_ s1 0).trans rfl
          have y1 : w'.cell? ⟨g8,1,none⟩ = some (.int .i64 at_):=(bC_ s1 1).trans rfl
          have y2 : w'.cell? ⟨g8,2,none⟩ = some (.string nm):=(bC_ s1 2).trans rfl
          go_simp
          with_reducible rfl
         rotate_left
         ·simp only [Act.put,sA_,sB_,sC_]
          rfl
         refine one_ (i:=9) (N:=some 25) (zA_ 33 1023) rfl rfl (by kernel_rfl) (by decide) (fun K hK => ?_)
         have hcr:=HC.out.below hHeld.2.2.2
         refine goes_ Tryz.func113 (by kernel_rfl) rfl #[.agg #[.int .i64 c.f0,.slice A1 c.f1.length c1,.slice A2 c.f2.length c2,.slice A3 c.f3.length c3,.slice A4 c.f4.length c4,.slice A5 c.f5.length c5,.slice A6 c.f6.length c6,.slice A7 c.f7.length c7,.slice A8 c.f8.length c8,.slice (some ad) c.f9.length c9,.slice A10 c.f10.length c10],.int .u8 k] (by rfl) rfl rfl (by (try simp only [List.map_toArray,List.map_cons,List.map_nil]);first|done|rfl) ?_
         with_reducible refine (shape_many.calls c.f0 A1 c1 c.f1 A2 c2 c.f2 A3 c3 c.f3 A4 c4 c.f4 A5 c5 c.f5 A6 c6 c.f6 A7 c7 c.f7 A8 c8 c.f8 (some ad) c9 c.f9 A10 c10 c.f10 k (manyF c k) _ hcr.r1 HCAP.out.k1 hcr.r2 HCAP.out.k2 hcr.r3 HCAP.out.k3 hcr.r4 HCAP.out.k4 hcr.r5 HCAP.out.k5 hcr.r6 HCAP.out.k6 hcr.r7 HCAP.out.k7 hcr.r8 HCAP.out.k8 hcr.r9 HCAP.out.k9 hcr.r10 HCAP.out.k10 (many_f c k)).mono ?_
         rintro e w9 ⟨rfl,hb⟩
         refine ⟨_,rfl,?_⟩
         have hHn:=And.intro ((hb.block _ (Array.getElem?_eq_some_iff.1 hHeld.1).1).trans hHeld.1) (And.intro ((hb.block _ (Array.getElem?_eq_some_iff.1 hHeld.2.1).1).trans hHeld.2.1) (And.intro ((hb.block _ (Array.getElem?_eq_some_iff.1 hHeld.2.2.1).1).trans hHeld.2.2.1) (hHeld.2.2.2.trans (hb.mono hHeld.2.2.2.size))))
         clear hHeld hb hcr
         refine hK.out _ _ hHn (fun hHeld => ?_)
         clear hK K hHn
         refine norm_ (a':=?_) ?_ ?_
         rotate_left
         ·simp only [Act.put,sA_,sB_,sC_]
          rfl
         refine pure_ (i:=10) (N:=some 26) (v:=?_) (a':=?_) (zA_ 33 2047) rfl rfl (by kernel_rfl) (fun _ _ _ h => by cases h.1) (Or.inl ⟨by rfl,?_⟩) ?_ ?_
         rotate_left
         ·intro w'
          go_simp
          with_reducible rfl
         rotate_left
         ·simp only [Act.put,sA_,sB_,sC_]
          rfl
         refine pure_ (i:=11) (N:=some 27) (v:=?_) (a':=?_) (zA_ 33 4095) rfl rfl (by kernel_rfl) (fun _ _ _ h => by cases h.1) (Or.inl ⟨by rfl,?_⟩) ?_ ?_
         rotate_left
         ·intro w'
          go_simp
          with_reducible rfl
         rotate_left
         ·simp only [Act.put,sA_,sB_,sC_]
          rfl
         refine pure_ (i:=12) (N:=some 28) (v:=?_) (a':=?_) (zA_ 33 8191) rfl rfl (by kernel_rfl) (fun _ _ _ h => by cases h.1) (Or.inl ⟨by rfl,?_⟩) ?_ ?_
         rotate_left
         ·intro w'
          go_simp
          with_reducible rfl
         rotate_left
         ·simp only [Act.put,sA_,sB_,sC_]
          rfl
         refine pure_ (i:=13) (N:=some 29) (v:=?_) (a':=?_) (zA_ 33 16383) rfl rfl (by kernel_rfl) (fun _ _ _ h => by cases h.1) (Or.inl ⟨by rfl,?_⟩) ?_ ?_
         rotate_left
         ·intro w'
          go_simp
          with_reducible rfl
         rotate_left
         ·simp only [Act.put,sA_,sB_,sC_]
          rfl
         refine take_ (i:=14) (N:=some 30) (v:=?_) (a':=?_) (zA_ 33 32767) rfl rfl (by kernel_rfl) (fun _ _ _ h => by cases h.1) (Or.inl ⟨by rfl,?_⟩) hHeld ?_ ?_
         rotate_left
         ·intro w' s_
          obtain ⟨s0_,s1,s2,s3⟩:=s_
          have y0 : w'.cell? ⟨g8,0,none⟩ = some (.int .u8 k):=(bC_ s1 0).trans rfl
          have y1 : w'.cell? ⟨g8,1,none⟩ = some (.int .i64 at_):=(bC_ s1 1).trans rfl
          have y2 : w'.cell? ⟨g8,2,none⟩ = some (.string nm):=(bC_ s1 2).trans rfl
          go_simp
          with_reducible rfl
         rotate_left
         ·simp only [Act.put,sA_,sB_,sC_]
          rfl
         refine pure_ (i:=15) (N:=some 31) (v:=?_) (a':=?_) (zA_ 33 65535) rfl rfl (by kernel_rfl) (fun _ _ _ h => by cases h.1) (Or.inl ⟨by rfl,?_⟩) ?_ ?_
         rotate_left
         ·intro w'
          go_simp
          with_reducible rfl
         rotate_left
         ·simp only [Act.put,sA_,sB_,sC_]
          rfl
         refine pure_ (i:=16) (N:=some 32) (v:=?_) (a':=?_) (zA_ 33 131071) rfl rfl (by kernel_rfl) (fun _ _ _ h => by cases h.1) (Or.inl ⟨by rfl,?_⟩) ?_ ?_
         rotate_left
         ·intro w'
          go_simp
          with_reducible rfl
         rotate_left
         ·simp only [Act.put,sA_,sB_,sC_]
          rfl
         refine pure_ (i:=17) (N:=some 33) (v:=?_) (a':=?_) (zA_ 33 262143) rfl rfl (by kernel_rfl) (fun _ _ _ h => by cases h.1) (Or.inl ⟨by rfl,?_⟩) ?_ ?_
         rotate_left
         ·intro w'
          go_simp
          with_reducible rfl
         rotate_left
         ·simp only [Act.put,sA_,sB_,sC_]
          rfl
         refine pure_ (i:=18) (N:=some 34) (v:=?_) (a':=?_) (zA_ 33 524287) rfl rfl (by kernel_rfl) (fun _ _ _ h => by cases h.1) (Or.inl ⟨by rfl,?_⟩) ?_ ?_
         rotate_left
         ·intro w'
          go_simp
          with_reducible rfl
         rotate_left
         ·simp only [Act.put,sA_,sB_,sC_]
          rfl
         refine take_ (i:=19) (N:=some 35) (v:=?_) (a':=?_) (zA_ 33 1048575) rfl rfl (by kernel_rfl) (fun _ _ _ h => by cases h.1) (Or.inl ⟨by rfl,?_⟩) hHeld ?_ ?_
         rotate_left
         ·intro w' s_
          obtain ⟨s0_,s1,s2,s3⟩:=s_
          have y0 : w'.cell? ⟨g8,0,none⟩ = some (.int .u8 k):=(bC_ s1 0).trans rfl
          have y1 : w'.cell? ⟨g8,1,none⟩ = some (.int .i64 at_):=(bC_ s1 1).trans rfl
          have y2 : w'.cell? ⟨g8,2,none⟩ = some (.string nm):=(bC_ s1 2).trans rfl
          go_simp
          with_reducible rfl
         rotate_left
         ·simp only [Act.put,sA_,sB_,sC_]
          rfl
         refine pure_ (i:=20) (N:=some 36) (v:=?_) (a':=?_) (zA_ 33 2097151) rfl rfl (by kernel_rfl) (fun _ _ _ h => by cases h.1) (Or.inl ⟨by rfl,?_⟩) ?_ ?_
         rotate_left
         ·intro w'
          go_simp
          with_reducible rfl
         rotate_left
         ·simp only [Act.put,sA_,sB_,sC_]
          rfl
         refine pure_ (i:=21) (N:=some 37) (v:=?_) (a':=?_) (zA_ 33 4194303) rfl rfl (by kernel_rfl) (fun _ _ _ h => by cases h.1) (Or.inl ⟨by rfl,?_⟩) ?_ ?_
         rotate_left
         ·intro w'
          go_simp
          with_reducible rfl
         rotate_left
         ·simp only [Act.put,sA_,sB_,sC_]
          rfl
         refine pure_ (i:=22) (N:=some 38) (v:=?_) (a':=?_) (zA_ 33 8388607) rfl rfl (by kernel_rfl) (fun _ _ _ h => by cases h.1) (Or.inl ⟨by rfl,?_⟩) ?_ ?_
         rotate_left
         ·intro w'
          go_simp
          with_reducible rfl
         rotate_left
         ·simp only [Act.put,sA_,sB_,sC_]
          rfl
         refine pure_ (i:=23) (N:=some 39) (v:=?_) (a':=?_) (zA_ 33 16777215) rfl rfl (by kernel_rfl) (fun _ _ _ h => by cases h.1) (Or.inl ⟨by rfl,?_⟩) ?_ ?_
         rotate_left
         ·intro w'
          go_simp
          with_reducible rfl
         rotate_left
         ·simp only [Act.put,sA_,sB_,sC_]
          rfl
         refine pure_ (i:=24) (N:=some 40) (v:=?_) (a':=?_) (zA_ 33 33554431) rfl rfl (by kernel_rfl) (fun _ _ _ h => by cases h.1) (Or.inl ⟨by rfl,?_⟩) ?_ ?_
         rotate_left
         ·intro w'
          go_simp
          with_reducible rfl
         rotate_left
         ·simp only [Act.put,sA_,sB_,sC_]
          rfl
         refine pure_ (i:=25) (N:=some 41) (v:=?_) (a':=?_) (zA_ 33 67108863) rfl rfl (by kernel_rfl) (fun _ _ _ h => by cases h.1) (Or.inl ⟨by rfl,?_⟩) ?_ ?_
         rotate_left
         ·intro w'
          go_simp
          with_reducible rfl
         rotate_left
         ·simp only [Act.put,sA_,sB_,sC_]
          rfl
         refine take_ (i:=26) (N:=some 42) (v:=?_) (a':=?_) (zA_ 33 134217727) rfl rfl (by kernel_rfl) (fun _ _ _ h => by cases h.1) (Or.inl ⟨by rfl,?_⟩) hHeld ?_ ?_
         rotate_left
         ·intro w' s_
          obtain ⟨s0_,s1,s2,s3⟩:=s_
          have y0 : w'.cell? ⟨g8,0,none⟩ = some (.int .u8 k):=(bC_ s1 0).trans rfl
          have y1 : w'.cell? ⟨g8,1,none⟩ = some (.int .i64 at_):=(bC_ s1 1).trans rfl
          have y2 : w'.cell? ⟨g8,2,none⟩ = some (.string nm):=(bC_ s1 2).trans rfl
          go_simp
          with_reducible rfl
         rotate_left
         ·simp only [Act.put,sA_,sB_,sC_]
          rfl
         refine pure_ (i:=27) (N:=some 43) (v:=?_) (a':=?_) (zA_ 33 268435455) rfl rfl (by kernel_rfl) (fun _ _ _ h => by cases h.1) (Or.inl ⟨by rfl,?_⟩) ?_ ?_
         rotate_left
         ·intro w'
          go_simp
          with_reducible rfl
         rotate_left
         ·simp only [Act.put,sA_,sB_,sC_]
          rfl
         refine take_ (i:=28) (N:=some 44) (v:=?_) (a':=?_) (zA_ 33 536870911) rfl rfl (by kernel_rfl) (fun _ _ _ h => by cases h.1) (Or.inl ⟨by rfl,?_⟩) hHeld ?_ ?_
         rotate_left
         ·intro w' s_
          obtain ⟨s0_,s1,s2,s3⟩:=s_
          have y0 : w'.cell? ⟨g8,0,none⟩ = some (.int .u8 k):=(bC_ s1 0).trans rfl
          have y1 : w'.cell? ⟨g8,1,none⟩ = some (.int .i64 at_):=(bC_ s1 1).trans rfl
          have y2 : w'.cell? ⟨g8,2,none⟩ = some (.string nm):=(bC_ s1 2).trans rfl
          go_simp
          with_reducible rfl
         rotate_left
         ·simp only [Act.put,sA_,sB_,sC_]
          rfl
         refine pure_ (i:=29) (N:=some 45) (v:=?_) (a':=?_) (zA_ 33 1073741823) rfl rfl (by kernel_rfl) (fun _ _ _ h => by cases h.1) (Or.inl ⟨by rfl,?_⟩) ?_ ?_
         rotate_left
         ·intro w'
          go_simp
          with_reducible rfl
         rotate_left
         ·simp only [Act.put,sA_,sB_,sC_]
          rfl
         refine take_ (i:=30) (N:=some 46) (v:=?_) (a':=?_) (zA_ 33 2147483647) rfl rfl (by kernel_rfl) (fun _ _ _ h => by cases h.1) (Or.inl ⟨by rfl,?_⟩) hHeld ?_ ?_
         rotate_left
         ·intro w' s_
          obtain ⟨s0_,s1,s2,s3⟩:=s_
          have hlk:=HLK.out w' s2
          go_simp
          with_reducible rfl
         rotate_left
         ·simp only [Act.put,sA_,sB_,sC_]
          rfl
         refine pure_ (i:=31) (N:=some 47) (v:=?_) (a':=?_) (zA_ 33 4294967295) rfl rfl (by kernel_rfl) (fun _ _ _ h => by cases h.1) (Or.inl ⟨by rfl,?_⟩) ?_ ?_
         rotate_left
         ·intro w'
          go_simp
          with_reducible rfl
         rotate_left
         ·simp only [Act.put,sA_,sB_,sC_]
          rfl
         refine pure_ (i:=32) (N:=some 48) (v:=?_) (a':=?_) (zA_ 33 8589934591) rfl rfl (by kernel_rfl) (fun _ _ _ h => by cases h.1) (Or.inl ⟨by rfl,?_⟩) ?_ ?_
         rotate_left
         ·intro w'
          go_simp
          with_reducible rfl
         rotate_left
         ·simp only [Act.put,sA_,sB_,sC_]
          rfl
         refine done_ (by kernel_rfl) ⟨rfl,?_⟩
         rename_i hKK
         refine hKK _ _ ?_
         clear hKK
         have HH:=A0_.mk hHeld
         clear hHeld
         have y2 : w9.cell? ⟨g8,2,none⟩ = some (.string nm):=(bC_ HH.out.2.1 2).trans rfl
         go_wp2
         repeat (go_quiet (fail);try go_wp2)
         (try simp only [Act.put,sA_,sB_,sC_])
         go_loopg [53] (nm.size + 1) (fun kq v w' => ∃ (m : Nat),v = .int .i64 m ∧ A0_ (m + kq = nm.size + 1) ∧ A0_ (m ≤ nm.size) ∧ A0_ ((nm.data.toList.take m).any (fun x => decide (x.toNat < 32)) = false) ∧ w' = w9)
         case atStart => exact ⟨0,rfl,⟨by omega⟩,⟨Nat.zero_le _⟩,⟨by simp⟩,rfl⟩
         case round =>
          obtain ⟨m,rfl,HK2,HNL2,HA2,rfl⟩:=hrel
          cases gk with
          |zero =>
           have h1:=HK2.out
           have h2:=HNL2.out
           omega
          |succ k2 =>
           by_cases cm : m < nm.size
           ·have cmb : decide ((m : Int) < (nm.size : Int)) = true:=decide_eq_true (by omega)
            have m0 : (0 ≤ (m : Int)) = True:=eq_true (by omega)
            have m1 : ((m : Int) < (nm.size : Int)) = True:=eq_true (by omega)
            have hwm : IntKind.i64.wrap ((m : Int) + 1) = ((m + 1 : Nat) : Int):=by have:=U4.out;rw [IntKind.wrap_i64];omega
            have hbt : ∀ h : m < nm.size,((nm[m]'h).toNat : Int) = bt nm (m : Int):=fun h => by
             unfold bt
             rw [dif_pos (by simpa using h)]
             rfl
            have hml : m < nm.data.toList.length:=by
             rw [ByteArray.length_toList_data_]
             exact cm
            have hbv : bt nm (m : Int) = ((nm.data.toList[m]'hml).toNat : Int):=by
             unfold bt
             rw [dif_pos (by simpa using cm)]
             rfl
            have htk : nm.data.toList.take (m + 1) = nm.data.toList.take m ++ [nm.data.toList[m]'hml]:=List.take_succ_eq_append_getElem hml
            by_cases b1 : (nm.data.toList[m]'hml).toNat < 32
            ·have b1b : decide (bt nm (m : Int) < 32) = true:=decide_eq_true (by rw [hbv];omega)
             have hr : (n : Int) = R:=by
              have h:=HS.out
              rw [if_pos] at h
              ·exact h
              ·rw [List.any_eq_true]
               exact ⟨_,List.getElem_mem hml,decide_eq_true b1⟩
             subst hr
             clear hbv htk b1 hml
             go_wp2
             repeat (go_quiet (fail);try go_wp2)
             go_ret
             exact ⟨rfl,HH.out.2.2.2⟩
            ·have b1b : decide (bt nm (m : Int) < 32) = false:=decide_eq_false (by rw [hbv];omega)
             have ha : (nm.data.toList.take (m + 1)).any (fun x => decide (x.toNat < 32)) = false:=by
              rw [htk,List.any_append,HA2.out,List.any_cons,List.any_nil,decide_eq_false b1]
              rfl
             have HA3:=A0_.mk ha
             clear hbv htk b1 hml ha
             go_wp2
             repeat (go_quiet (fail);try go_wp2)
             go_roundg k2
             case measure => omega
             case rel => exact ⟨m + 1,rfl,⟨by have:=HK2.out;omega⟩,⟨by omega⟩,HA3,rfl⟩
           ·have cmb : decide ((m : Int) < (nm.size : Int)) = false:=decide_eq_false (by omega)
            have hm9 : m = nm.size:=by have:=HNL2.out;omega
            subst hm9
            have ha:=HA2.out
            rw [List.take_of_length_le (by rw [ByteArray.length_toList_data_];exact Nat.le_refl _)] at ha
            have hr:=HS.out
            rw [if_neg (by rw [ha];decide),← HTK.out] at hr
            have HR:=A0_.mk hr
            have y0 : wr.cell? ⟨g8,0,none⟩ = some (.int .u8 k):=(bC_ HH.out.2.1 0).trans rfl
            have y1 : wr.cell? ⟨g8,1,none⟩ = some (.int .i64 at_):=(bC_ HH.out.2.1 1).trans rfl
            clear hr ha HS HA2
            go_wp2
            repeat (go_quiet (fail);try go_wp2)
            have hl1 : seen.length = n:=HLN.out
            have hMd : wr.drew.heap[w.heap.size + 1]? = some (.map (esOf seen) n):=HH.out.2.2.1
            refine wp_normal' ?_
            refine start_ (n:=11) (S:=fun w' => w'.cell? ⟨g8,0,none⟩ = some (.int .u8 k) ∧ w'.cell? ⟨g8,1,none⟩ = some (.int .i64 at_) ∧ (Instr.lookup 156 (.map (some (w.heap.size + 1))) (.agg #[.int .u8 k,.int .i64 at_]) false).run Tryz.prog w' = .ok (.int .i64 0) w') (ds:=[10]) (Array.replicate 11 false) (by kernel_rfl) rfl rfl ⟨y0,y1,HLK.out _ hMd⟩ (fun hHeld => ?_)
            refine pure_ (i:=0) (N:=some 63) (v:=?_) (a':=?_) (zA_ 11 1) rfl rfl (by kernel_rfl) (fun _ _ _ h => by cases h.1) (Or.inl ⟨by rfl,?_⟩) ?_ ?_
            rotate_left
            ·intro w'
             go_simp
             with_reducible rfl
            rotate_left
            ·simp only [Act.put,sA_,sB_,sC_]
             rfl
            refine pure_ (i:=1) (N:=some 64) (v:=?_) (a':=?_) (zA_ 11 3) rfl rfl (by kernel_rfl) (fun _ _ _ h => by cases h.1) (Or.inl ⟨by rfl,?_⟩) ?_ ?_
            rotate_left
            ·intro w'
             go_simp
             with_reducible rfl
            rotate_left
            ·simp only [Act.put,sA_,sB_,sC_]
             rfl
            refine take_ (i:=2) (N:=some 65) (v:=?_) (a':=?_) (zA_ 11 7) rfl rfl (by kernel_rfl) (fun _ _ _ h => by cases h.1) (Or.inl ⟨by rfl,?_⟩) hHeld ?_ ?_
            rotate_left
            ·intro w' s_
             obtain ⟨s0_,s1,s2⟩:=s_
             go_simp
             with_reducible rfl
            rotate_left
            ·simp only [Act.put,sA_,sB_,sC_]
             rfl
            refine pure_ (i:=3) (N:=some 66) (v:=?_) (a':=?_) (zA_ 11 15) rfl rfl (by kernel_rfl) (fun _ _ _ h => by cases h.1) (Or.inl ⟨by rfl,?_⟩) ?_ ?_
            rotate_left
            ·intro w'
             go_simp
             with_reducible rfl
            rotate_left
            ·simp only [Act.put,sA_,sB_,sC_]
             rfl
            refine take_ (i:=4) (N:=some 67) (v:=?_) (a':=?_) (zA_ 11 31) rfl rfl (by kernel_rfl) (fun _ _ _ h => by cases h.1) (Or.inl ⟨by rfl,?_⟩) hHeld ?_ ?_
            rotate_left
            ·intro w' s_
             obtain ⟨s0_,s1,s2⟩:=s_
             go_simp
             with_reducible rfl
            rotate_left
            ·simp only [Act.put,sA_,sB_,sC_]
             rfl
            refine pure_ (i:=5) (N:=some 68) (v:=?_) (a':=?_) (zA_ 11 63) rfl rfl (by kernel_rfl) (fun _ _ _ h => by cases h.1) (Or.inl ⟨by rfl,?_⟩) ?_ ?_
            rotate_left
            ·intro w'
             go_simp
             with_reducible rfl
            rotate_left
            ·simp only [Act.put,sA_,sB_,sC_]
             rfl
            refine take_ (i:=6) (N:=some 69) (v:=?_) (a':=?_) (zA_ 11 127) rfl rfl (by kernel_rfl) (fun _ _ _ h => by cases h.1) (Or.inl ⟨by rfl,?_⟩) hHeld ?_ ?_
            rotate_left
            ·intro w' s_
             obtain ⟨s0_,s1,s2⟩:=s_
             go_simp
             with_reducible rfl
            rotate_left
            ·simp only [Act.put,sA_,sB_,sC_]
             rfl
            refine pure_ (i:=7) (N:=some 70) (v:=?_) (a':=?_) (zA_ 11 255) rfl rfl (by kernel_rfl) (fun _ _ _ h => by cases h.1) (Or.inl ⟨by rfl,?_⟩) ?_ ?_
            rotate_left
            ·intro w'
             go_simp
             with_reducible rfl
            rotate_left
            ·simp only [Act.put,sA_,sB_,sC_]
             rfl
            have hme : (Instr.mapEntry 156 (.map (some (w.heap.size + 1))) (.agg #[.int .u8 k,.int .i64 at_])).run Tryz.prog wr.drew = .ok (.tuple #[.int .i64 0,.int .i64 n]) (wr.drew.putObj (w.heap.size + 1) (.map ((esOf seen).push { key:=kv ⟨k,at_⟩,val:=.int .i64 0,born:=n }) (n + 1))):=mapEntry175 ⟨k,at_⟩ wr.drew (w.heap.size + 1) n seen hl1.symm U5.out hMd
            have hput:=fun o => heap_put (w:=wr.drew) (r:=w.heap.size + 1) (o':=o) hMd
            have hbr : Below w.heap.size w wr.drew:=below_drew HH.out.2.2.2
            generalize hW9 : wr.drew.putObj (w.heap.size + 1) (.map ((esOf seen).push { key:=kv ⟨k,at_⟩,val:=.int .i64 0,born:=n }) (n + 1)) = w10 at hme
            have hM9 : w10.heap[w.heap.size + 1]? = some (.map ((esOf seen).push { key:=kv ⟨k,at_⟩,val:=.int .i64 0,born:=n }) (n + 1)):=by rw [← hW9];exact (hput _).1
            have hC9 : w10.heap[g8]? = some (.cells #[.int .u8 k,.int .i64 at_,.string nm] 77 (0,0)):=by rw [← hW9];exact ((hput _).2 g8 (by have:=HLT.out;omega)).trans HH.out.2.1
            have hG9 : w10.heap[w.heap.size]? = some (.cells #[.int .i64 c.f0,.slice A1 c.f1.length c1,.slice A2 c.f2.length c2,.slice A3 c.f3.length c3,.slice A4 c.f4.length c4,.slice A5 c.f5.length c5,.slice A6 c.f6.length c6,.slice A7 c.f7.length c7,.slice A8 c.f8.length c8,.slice (some ad) c.f9.length c9,.slice A10 c.f10.length c10] 29 (0,0)):=by rw [← hW9];exact ((hput _).2 w.heap.size (by omega)).trans HH.out.1
            have hB9 : Below w.heap.size w w10:=by rw [← hW9];exact hbr.grown (grownBy_putObj' _ _ _) hbr.size (fun k e => by injection e with e;omega)
            refine one_ (i:=8) (N:=some 71) (zA_ 11 511) rfl rfl (by kernel_rfl) (by decide) (fun K hK => ?_)
            refine value_ (v:=.tuple #[.int .i64 0,.int .i64 n]) (w1:=w10) rfl rfl ?_ ?_
            ·go_simp
            refine hK.out _ _ ⟨(bC_ hC9 0).trans rfl,(bC_ hC9 1).trans rfl,lookup175_new ⟨k,at_⟩ w10 _ _ _ _ U5.out hM9⟩ (fun hHeld2 => ?_)
            clear hK K
            refine norm_ (a':=?_) ?_ ?_
            rotate_left
            ·show Act.put _ (some 71) _ = _
             simp only [Act.put,sA_,sB_,sC_]
             rfl
            refine pure_ (i:=9) (N:=some 72) (v:=?_) (a':=?_) (zA_ 11 1023) rfl rfl (by kernel_rfl) (fun _ _ _ h => by cases h.1) (Or.inl ⟨by rfl,?_⟩) ?_ ?_
            rotate_left
            ·intro w'
             go_simp
             with_reducible rfl
            rotate_left
            ·simp only [Act.put,sA_,sB_,sC_]
             rfl
            have hes:=entryStore175 ⟨k,at_⟩ w10 (w.heap.size + 1) n seen hl1.symm hM9
            rw [← HTK.out] at hes
            have hput9:=fun o => heap_put (w:=w10) (r:=w.heap.size + 1) (o':=o) hM9
            generalize hW10 : w10.putObj (w.heap.size + 1) (.map (esOf ((c.f9.take (n + 1)).map (fun s => (⟨s.f0,s.f1⟩ : S40)))) (n + 1)) = w11 at hes
            have hM10 : w11.heap[w.heap.size + 1]? = some (.map (esOf ((c.f9.take (n + 1)).map (fun s => (⟨s.f0,s.f1⟩ : S40)))) (n + 1)):=by rw [← hW10];exact (hput9 _).1
            have hG10 : w11.heap[w.heap.size]? = some (.cells #[.int .i64 c.f0,.slice A1 c.f1.length c1,.slice A2 c.f2.length c2,.slice A3 c.f3.length c3,.slice A4 c.f4.length c4,.slice A5 c.f5.length c5,.slice A6 c.f6.length c6,.slice A7 c.f7.length c7,.slice A8 c.f8.length c8,.slice (some ad) c.f9.length c9,.slice A10 c.f10.length c10] 29 (0,0)):=by rw [← hW10];exact ((hput9 _).2 w.heap.size (by omega)).trans hG9
            have hB10 : Below w.heap.size w w11:=by rw [← hW10];exact hB9.grown (grownBy_putObj' _ _ _) hB9.size (fun k e => by injection e with e;omega)
            refine last_ (i:=10) (N:=none) (zA_ 11 2047) rfl rfl (by kernel_rfl) (by decide) (fun K hK => ?_)
            refine skip_ (w1:=w11) rfl rfl ?_ ?_
            ·go_simp
             rw [show IntKind.i64.wrap (1 : Int) = 1 by decide,hes]
             rfl
            refine hK.out _ _ ?_
            clear hK K
            refine done_ (by kernel_rfl) ⟨rfl,?_⟩
            have HM10:=A0_.mk hM10
            have HG10:=A0_.mk hG10
            have HB10:=A0_.mk hB10
            clear hM10 hG10 hB10 hes hput9 hput hW9 hW10 hM9 hC9 hB9 hG9 hme hMd hbr y0 y1
            rename_i hKK e1_ e2_ e3_ e4_ e5_ e6_ e7_ e8_
            refine hKK _ _ ?_
            go_wp2
            repeat (go_quiet (fail);try go_wp2)
            go_roundg k1
            case measure => omega
            case rel => exact ⟨n + 1,rfl,⟨by have:=HK.out;omega⟩,⟨by omega⟩,HR,HG10,HM10,HB10⟩
   ·have cnb : decide ((n : Int) < (c.f9.length : Int)) = false:=decide_eq_false (by omega)
    have hn9 : n = c.f9.length:=by have:=HNL.out;omega
    subst hn9
    have hr:=HR.out
    rw [List.drop_length,symbolsF] at hr
    subst hr
    go_wp2
    repeat (go_quiet (fail);try go_wp2)
    go_ret
    exact ⟨rfl,HB.out⟩
end Go.Proofs.YtdmngdohlobogaaGreatDoor.Asc

