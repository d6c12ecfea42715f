import Derived.Test.YtojepjkpnponoaaDoorFStim0
import Derived.Test.YtojepjkpnponoaaDoorFGV
import Derived.Test.YtojepjkpnponoaaDoorFMap83
set_option linter.unusedSimpArgs false
namespace Go.Proofs.YtojepjkpnponoaaDoor.Stim
open Go Go.RowKit Go.Proofs.YtojepjkpnponoaaDoorW.PrintWords Go.Proofs.YtojepjkpnponoaaDoorW.PrintLast Go.Proofs.YtojepjkpnponoaaDoorW.PrintMore
set_option linter.unusedVariables false
def propFits (p : S83) : Bool:=(p.f0 == 98 || p.f0 == 106) && !decide (p.f1 < 0) && !decide (p.f1 ≥ 16384)
def propsLoop (seen : List S83) : List S83 → Int
 |[] => 0
 |p :: l => if propFits p = true ∧ seen.any (same83 p) = false then propsLoop (seen ++ [p]) l else 121
def stim_props.f (l0 : List (S83)) : Option (Int):=if l0.length > 16384 then some 2 else if l0.length = 0 then some 121 else some (propsLoop [] l0)
theorem heap_put {w : World} {r : Nat} {o o' : Obj} (hb : w.heap[r]? = some o) : (w.putObj r o').heap[r]? = some o' ∧ ∀ r',r' ≠ r → (w.putObj r o').heap[r']? = w.heap[r']?:=MapKept.heap_set hb
theorem wp_normal' {P : Program} {c : Code} {Q : Exit → Act → World → Prop} {a : Act} {w : World} (h : c.wp P (fun e a w => e = .normal ∧ Q .normal a w) a w) : c.wp P Q a w :=
 Code.wp_mono (fun _ _ _ hq => by
  obtain ⟨rfl,hq⟩:=hq
  exact hq) h
set_option maxHeartbeats 4000000 in
set_option maxRecDepth 100000 in
theorem stim_props.calls (A0 : Option Addr) (c0 : Nat) (l0 : List (S83)) (r : Int) (w : World) (hr0 : Kd.C k83 w A0 l0.length l0) (hc0 : l0.length ≤ c0) (h : stim_props.f l0 = some r) :
  Calls Tryd.prog 41 #[.slice A0 l0.length c0] w fun e w' => e = .returned (.int .i64 r) ∧ Below w.heap.size w w':=by
 have hmm:=@run_makeMap Tryd.prog
 have hu83:=Tryd.underlying83
 have HR0:=Lib.hid hr0
 clear hr0 hc0
 unfold stim_props.f at h
 by_cases c2 : l0.length > 16384
 ·rw [if_pos c2] at h
  injection h with h
  subst h
  have c2b1 : decide (16384 < l0.length) = true:=decide_eq_true (by omega)
  go_enter Tryd.func41,Tryd.ntmps41
  go_wp2
  repeat (go_quiet (fail);try go_wp2)
  go_ret
  exact ⟨rfl,Below.refl _ _⟩
 ·rw [if_neg c2] at h
  by_cases c3 : l0.length = 0
  ·rw [if_pos c3] at h
   injection h with h
   subst h
   have c3b0 : ((l0.length : Int) == 0) = true:=by simp [c3]
   go_enter Tryd.func41,Tryd.ntmps41
   go_wp2
   repeat (go_quiet (fail);try go_wp2)
   go_ret
   exact ⟨rfl,Below.refl _ _⟩
  ·rw [if_neg c3] at h
   injection h with h
   have H:=Lib.hid h
   clear h
   have c3b0 : ((l0.length : Int) == 0) = false:=beq_eq_false_iff_ne.mpr (by omega)
   have c3b2 : ¬ (l0 = []):=fun h_ => c3 (by rw [h_];rfl)
   go_enter Tryd.func41,Tryd.ntmps41
   go_wp2
   repeat (go_quiet (fail);try go_wp2)
   (try simp only [Act.put,List.setIfInBounds_toArray,List.set_cons_zero,List.set_cons_succ])
   go_loopg [15] (l0.length + 1) (fun kq v w' => ∃ n : Nat,v = .int .i64 n ∧ A0_ (n + kq = l0.length + 1) ∧ A0_ (n ≤ l0.length) ∧ A0_ (propsLoop (l0.take n) (l0.drop n) = r) ∧ A0_ (w'.heap[w.heap.size]? = some (.map (esOf (l0.take n)) n)) ∧ A0_ (Below w.heap.size w w'))
   case atStart => exact ⟨0,rfl,⟨by omega⟩,⟨by omega⟩,⟨H.out⟩,⟨by rw [World.alloc_heap_new];rfl⟩,⟨eA_ (Below.refl _ _) _⟩⟩
   case round =>
    obtain ⟨n,rfl,HK,HN,HP,HM,HB⟩:=hrel
    cases gk with
    |zero =>
     have h1:=HK.out
     have h2:=HN.out
     omega
    |succ k1 =>
     by_cases c4 : n < l0.length
     ·have c4b0 : decide ((n : Int) < (l0.length : Int)) = true:=decide_eq_true (by omega)
      have p238 : 0 ≤ (n : Int):=by omega
      have q238 : (n : Int) < (l0.length : Int):=by omega
      obtain ⟨ad238,e238,hx238_0,hx238_1⟩:=at_T83 HR0.out (n : Int) p238 q238
      cases e238
      simp only [Int.toNat_natCast] at hx238_0 hx238_1
      replace hx238_0:=(HB.out.cell (World.block_lt_of_cell? w _ hx238_0)).trans hx238_0
      replace hx238_1:=(HB.out.cell (World.block_lt_of_cell? w _ hx238_1)).trans hx238_1
      replace p238:=eq_true p238
      replace q238:=eq_true q238
      have hMlt : w.heap.size < wr.heap.size:=(Array.getElem?_eq_some_iff.1 HM.out).1
      have HMlt:=A0_.mk hMlt
      clear hMlt
      have hrd : rd_T83 l0 (n : Int) = l0[n]:=by simp [rd_T83,c4]
      have HRD:=A0_.mk hrd
      generalize rd_T83 l0 (n : Int) = p at *
      obtain ⟨pk,pa⟩:=p
      dsimp only at *
      go_upto_region 9 with (first|((with_reducible refine gate_dst (N:=5) rfl ?_);refine box_event ?hg (N:=5) ?hd (cs:=#[.int .u8 0,.int .i64 0]) (t:=83) ?hr ?_;(case hd => rfl);(case hg => rfl);(case hr => first|(go_simp;done)|(go_simp;rfl));intro gb239 hg w7 hbox hb;have n0_:=A0_.mk (below_step HB.out hb);have n1_:=A0_.mk hbox;have n2_:=A0_.mk ((by rw [hg];exact HMlt.out) : w.heap.size < gb239);have n3_:=A0_.mk ((hb.block _ HMlt.out).trans HM.out);clear HB HM;have HB:=n0_;have BK239:=n1_;have GE239:=n2_;have HM:=n3_;clear n0_ n1_ n2_ n3_;clear hb hbox hg;have hcz8_0 : w7.cell? ⟨gb239,0,none⟩ = some (.int .u8 0):=(bC_ BK239.out 0).trans rfl;have hcz8_1 : w7.cell? ⟨gb239,1,none⟩ = some (.int .i64 0):=(bC_ BK239.out 1).trans rfl;have hfz8_0:=bF_ BK239.out 0;have hfz8_1:=bF_ BK239.out 1))
      repeat (go_quiet (fail);try go_wp2)
      have BK8 : ((w7.setCell ⟨gb239,0,none⟩ (.int .u8 pk)).setCell ⟨gb239,1,none⟩ (.int .i64 pa)).heap[gb239]? = some (.cells #[.int .u8 pk,.int .i64 pa] 83 (0,0)):=blk_put (cs:=#[.int .u8 pk,.int .i64 0]) (blk_put (cs:=#[.int .u8 0,.int .i64 0]) BK239.out 0 _ rfl) 1 _ rfl
      have hM8 : ((w7.setCell ⟨gb239,0,none⟩ (.int .u8 pk)).setCell ⟨gb239,1,none⟩ (.int .i64 pa)).heap[w.heap.size]? = some (.map (esOf (l0.take n)) n):=((Below.heap_setCell _ _ _ _ (by have:=GE239.out;show w.heap.size ≠ gb239;omega)).trans (Below.heap_setCell _ _ _ _ (by have:=GE239.out;show w.heap.size ≠ gb239;omega))).trans HM.out
      have hB8 : Below w.heap.size w ((w7.setCell ⟨gb239,0,none⟩ (.int .u8 pk)).setCell ⟨gb239,1,none⟩ (.int .i64 pa)):=eS_ (eS_ HB.out (Nat.le_of_lt GE239.out)) (Nat.le_of_lt GE239.out)
      generalize (w7.setCell ⟨gb239,0,none⟩ (.int .u8 pk)).setCell ⟨gb239,1,none⟩ (.int .i64 pa) = w8 at BK8 hM8 hB8 ⊢
      have hcz9_0 : w8.cell? ⟨gb239,0,none⟩ = some (.int .u8 pk):=(bC_ BK8 0).trans rfl
      have hcz9_1 : w8.cell? ⟨gb239,1,none⟩ = some (.int .i64 pa):=(bC_ BK8 1).trans rfl
      have hlk : (Instr.lookup 128 (.map (some w.heap.size)) (.agg #[.int .u8 pk,.int .i64 pa]) false).run Tryd.prog w8 = .ok (.int .i64 (if (l0.take n).any (same83 ⟨pk,pa⟩) then 1 else 0)) w8:=lookup83 ⟨pk,pa⟩ w8 w.heap.size n (l0.take n) hM8
      have hdrop : l0.drop n = ⟨pk,pa⟩ :: l0.drop (n + 1):=by rw [HRD.out];exact List.drop_eq_getElem_cons c4
      have htake : l0.take (n + 1) = l0.take n ++ [⟨pk,pa⟩]:=by rw [HRD.out];exact List.take_succ_eq_append_getElem c4
      have hstep : propsLoop (l0.take n) (⟨pk,pa⟩ :: l0.drop (n + 1)) = r:=by rw [← hdrop];exact HP.out
      have HB8:=A0_.mk hB8
      have HM8:=A0_.mk hM8
      have HK8:=A0_.mk BK8
      have HT:=A0_.mk htake
      have HS:=A0_.mk hstep
      clear hB8 hM8 BK8 htake hdrop hstep hcz8_0 hcz8_1 hfz8_0 hfz8_1 HB HM BK239 HRD hrd hx238_0 hx238_1 HP
      generalize hseen : (l0.take n).any (same83 ⟨pk,pa⟩) = seen at hlk
      have HSEEN:=A0_.mk hseen
      clear hseen
      by_cases m1 : pk = 98
      ·subst m1
       by_cases n1 : pa < 0
       ·have n1b : decide (pa < 0) = true:=decide_eq_true n1
        have HR : (121 : Int) = r:=by rw [← HS.out];unfold propsLoop;rw [if_neg];rintro ⟨h1,h2⟩;(first|(rw [HSEEN.out] at h2;cases h2;done)|(unfold propFits at h1;simp at h1;omega))
        subst HR
        go_wp2
        repeat (go_quiet (fail);try go_wp2)
        go_ret
        exact ⟨rfl,HB8.out⟩
       ·have n1b : decide (pa < 0) = false:=decide_eq_false n1
        by_cases n2 : pa ≥ 16384
        ·have n2b : decide (16384 ≤ pa) = true:=decide_eq_true n2
         have n2c : 16384 ≤ pa:=n2
         have HR : (121 : Int) = r:=by rw [← HS.out];unfold propsLoop;rw [if_neg];rintro ⟨h1,h2⟩;(first|(rw [HSEEN.out] at h2;cases h2;done)|(unfold propFits at h1;simp at h1;omega))
         subst HR
         go_wp2
         repeat (go_quiet (fail);try go_wp2)
         go_ret
         exact ⟨rfl,HB8.out⟩
        ·have n2b : decide (16384 ≤ pa) = false:=decide_eq_false n2
         have n2c : ¬ (16384 ≤ pa):=n2
         cases seen with
         |true =>
          simp only [if_true] at hlk
          have HR : (121 : Int) = r:=by rw [← HS.out];unfold propsLoop;rw [if_neg];rintro ⟨h1,h2⟩;(first|(rw [HSEEN.out] at h2;cases h2;done)|(unfold propFits at h1;simp at h1;omega))
          subst HR
          go_wp2
          repeat (go_quiet (fail);try go_wp2)
          go_ret
          exact ⟨rfl,HB8.out⟩
         |false =>
          simp only [Bool.false_eq_true,if_false] at hlk
          have HR : propsLoop (l0.take (n + 1)) (l0.drop (n + 1)) = r:=by rw [← HS.out,HT.out];conv => rhs;unfold propsLoop;rw [if_pos ⟨by unfold propFits;simp;omega,HSEEN.out⟩]
          have HR':=A0_.mk HR
          clear HR
          go_wp2
          repeat (go_quiet (fail);try go_wp2)
          refine wp_normal' ?_
          refine start_ (n:=7) (S:=fun w' => w'.cell? ⟨gb239,0,none⟩ = some (.int .u8 98) ∧ w'.cell? ⟨gb239,1,none⟩ = some (.int .i64 pa) ∧ (Instr.lookup 128 (.map (some w.heap.size)) (.agg #[.int .u8 98,.int .i64 pa]) false).run Tryd.prog w' = .ok (.int .i64 0) w') (ds:=[6]) #[false,false,false,false,false,false,false] (by kernel_rfl) rfl rfl ⟨hcz9_0,hcz9_1,(lookup83 ⟨_,pa⟩ w8.drew w.heap.size n (l0.take n) HM8.out).trans (by rw [HSEEN.out];rfl)⟩ (fun hHeld => ?_)
          refine pure_ (i:=0) (N:=some 43) (v:=?_) (a':=?_) #[true,false,false,false,false,false,false] rfl rfl (by kernel_rfl) (fun _ _ _ h => by cases h.1) (Or.inl ⟨by rfl,?_⟩) ?_ ?_
          rotate_left
          ·intro w'
           go_simp
           with_reducible rfl
          rotate_left
          ·simp only [Act.put,List.setIfInBounds_toArray,List.set_cons_zero,List.set_cons_succ]
           rfl
          refine take_ (i:=1) (N:=some 44) (v:=?_) (a':=?_) #[true,true,false,false,false,false,false] rfl rfl (by kernel_rfl) (fun _ _ _ h => by cases h.1) (Or.inl ⟨by rfl,?_⟩) hHeld ?_ ?_
          rotate_left
          ·intro w' s0
           obtain ⟨s1,s2,s3⟩:=s0
           go_simp
           with_reducible rfl
          rotate_left
          ·simp only [Act.put,List.setIfInBounds_toArray,List.set_cons_zero,List.set_cons_succ]
           rfl
          refine take_ (i:=2) (N:=some 45) (v:=?_) (a':=?_) #[true,true,true,false,false,false,false] rfl rfl (by kernel_rfl) (fun _ _ _ h => by cases h.1) (Or.inl ⟨by rfl,?_⟩) hHeld ?_ ?_
          rotate_left
          ·intro w' s0
           obtain ⟨s1,s2,s3⟩:=s0
           go_simp
           with_reducible rfl
          rotate_left
          ·simp only [Act.put,List.setIfInBounds_toArray,List.set_cons_zero,List.set_cons_succ]
           rfl
          refine pure_ (i:=3) (N:=some 46) (v:=?_) (a':=?_) #[true,true,true,true,false,false,false] rfl rfl (by kernel_rfl) (fun _ _ _ h => by cases h.1) (Or.inl ⟨by rfl,?_⟩) ?_ ?_
          rotate_left
          ·intro w'
           go_simp
           with_reducible rfl
          rotate_left
          ·simp only [Act.put,List.setIfInBounds_toArray,List.set_cons_zero,List.set_cons_succ]
           rfl
          have hMd : w8.drew.heap[w.heap.size]? = some (.map (esOf (l0.take n)) n):=HM8.out
          have hlt1 : (l0.take n).length = n:=by simp;omega
          have hme : (Instr.mapEntry 128 (.map (some w.heap.size)) (.agg #[.int .u8 98,.int .i64 pa])).run Tryd.prog w8.drew = .ok (.tuple #[.int .i64 0,.int .i64 n]) (w8.drew.putObj w.heap.size (.map ((esOf (l0.take n)).push { key:=kv ⟨98,pa⟩,val:=.int .i64 0,born:=n }) (n + 1))):=mapEntry83 ⟨98,pa⟩ w8.drew w.heap.size n (l0.take n) hlt1.symm HSEEN.out hMd
          have hput:=fun o => heap_put (w:=w8.drew) (r:=w.heap.size) (o':=o) hMd
          generalize hW9 : w8.drew.putObj w.heap.size (.map ((esOf (l0.take n)).push { key:=kv ⟨98,pa⟩,val:=.int .i64 0,born:=n }) (n + 1)) = w9 at hme
          have hM9 : w9.heap[w.heap.size]? = some (.map ((esOf (l0.take n)).push { key:=kv ⟨98,pa⟩,val:=.int .i64 0,born:=n }) (n + 1)):=by rw [← hW9];exact (hput _).1
          have hC9 : w9.heap[gb239]? = some (.cells #[.int .u8 98,.int .i64 pa] 83 (0,0)):=by rw [← hW9];exact ((hput _).2 gb239 (by have:=GE239.out;omega)).trans HK8.out
          have hB9 : Below w.heap.size w w9:=by rw [← hW9];exact (below_drew HB8.out).grown (grownBy_putObj' _ _ _) (below_drew HB8.out).size (fun k e => by injection e with e;omega)
          refine one_ (i:=4) (N:=some 47) #[true,true,true,true,true,false,false] rfl rfl (by kernel_rfl) (by decide) (fun K hK => ?_)
          refine value_ (v:=.tuple #[.int .i64 0,.int .i64 n]) (w1:=w9) rfl rfl ?_ ?_
          ·go_simp
          refine hK.out _ _ ⟨(bC_ hC9 0).trans rfl,(bC_ hC9 1).trans rfl,lookup83_new ⟨98,pa⟩ w9 _ _ _ _ HSEEN.out hM9⟩ (fun hHeld2 => ?_)
          clear hK K
          refine norm_ (a':=?_) ?_ ?_
          rotate_left
          ·show Act.put _ (some 47) _ = _
           simp only [Act.put,List.setIfInBounds_toArray,List.set_cons_zero,List.set_cons_succ]
           rfl
          refine pure_ (i:=5) (N:=some 48) (v:=?_) (a':=?_) #[true,true,true,true,true,true,false] rfl rfl (by kernel_rfl) (fun _ _ _ h => by cases h.1) (Or.inl ⟨by rfl,?_⟩) ?_ ?_
          rotate_left
          ·intro w'
           go_simp
           with_reducible rfl
          rotate_left
          ·simp only [Act.put,List.setIfInBounds_toArray,List.set_cons_zero,List.set_cons_succ]
           rfl
          have hes:=entryStore83 ⟨98,pa⟩ w9 w.heap.size n (l0.take n) hlt1.symm hM9
          rw [← HT.out] at hes
          have hput9:=fun o => heap_put (w:=w9) (r:=w.heap.size) (o':=o) hM9
          generalize hW10 : w9.putObj w.heap.size (.map (esOf (l0.take (n + 1))) (n + 1)) = w10 at hes
          have hM10 : w10.heap[w.heap.size]? = some (.map (esOf (l0.take (n + 1))) (n + 1)):=by rw [← hW10];exact (hput9 _).1
          have hB10 : Below w.heap.size w w10:=by rw [← hW10];exact hB9.grown (grownBy_putObj' _ _ _) hB9.size (fun k e => by injection e with e;omega)
          refine last_ (i:=6) (N:=none) #[true,true,true,true,true,true,true] rfl rfl (by kernel_rfl) (by decide) (fun K hK => ?_)
          refine skip_ (w1:=w10) rfl rfl ?_ ?_
          ·go_simp
           rw [show IntKind.i64.wrap (1 : Int) = 1 by decide,hes]
           rfl
          refine hK.out _ _ ?_
          clear hK K
          refine done_ (by kernel_rfl) ⟨rfl,?_⟩
          have HM10:=A0_.mk hM10
          have HB10:=A0_.mk hB10
          clear hM10 hB10
          clear hes hput9 hput hW9 hW10 hM9 hC9 hB9 hme hMd hlt1 hlk hcz9_0 hcz9_1
          rename_i hKK
          refine hKK _ _ ?_
          go_wp2
          repeat (go_quiet (fail);try go_wp2)
          go_roundg k1
          case measure => omega
          case rel => exact ⟨n + 1,by go_num,⟨by have:=HK.out;omega⟩,⟨by omega⟩,HR',HM10,HB10⟩
      ·have m1b : (pk == 98) = false:=by simp [m1]
       have m1c : (pk != 98) = true:=by simp [m1]
       by_cases m2 : pk = 106
       ·subst m2
        by_cases n1 : pa < 0
        ·have n1b : decide (pa < 0) = true:=decide_eq_true n1
         have HR : (121 : Int) = r:=by rw [← HS.out];unfold propsLoop;rw [if_neg];rintro ⟨h1,h2⟩;(first|(rw [HSEEN.out] at h2;cases h2;done)|(unfold propFits at h1;simp at h1;omega))
         subst HR
         go_wp2
         repeat (go_quiet (fail);try go_wp2)
         go_ret
         exact ⟨rfl,HB8.out⟩
        ·have n1b : decide (pa < 0) = false:=decide_eq_false n1
         by_cases n2 : pa ≥ 16384
         ·have n2b : decide (16384 ≤ pa) = true:=decide_eq_true n2
          have n2c : 16384 ≤ pa:=n2
          have HR : (121 : Int) = r:=by rw [← HS.out];unfold propsLoop;rw [if_neg];rintro ⟨h1,h2⟩;(first|(rw [HSEEN.out] at h2;cases h2;done)|(unfold propFits at h1;simp at h1;omega))
          subst HR
          go_wp2
          repeat (go_quiet (fail);try go_wp2)
          go_ret
          exact ⟨rfl,HB8.out⟩
         ·have n2b : decide (16384 ≤ pa) = false:=decide_eq_false n2
          have n2c : ¬ (16384 ≤ pa):=n2
          cases seen with
          |true =>
           simp only [if_true] at hlk
           have HR : (121 : Int) = r:=by rw [← HS.out];unfold propsLoop;rw [if_neg];rintro ⟨h1,h2⟩;(first|(rw [HSEEN.out] at h2;cases h2;done)|(unfold propFits at h1;simp at h1;omega))
           subst HR
           go_wp2
           repeat (go_quiet (fail);try go_wp2)
           go_ret
           exact ⟨rfl,HB8.out⟩
          |false =>
           simp only [Bool.false_eq_true,if_false] at hlk
           have HR : propsLoop (l0.take (n + 1)) (l0.drop (n + 1)) = r:=by rw [← HS.out,HT.out];conv => rhs;unfold propsLoop;rw [if_pos ⟨by unfold propFits;simp;omega,HSEEN.out⟩]
           have HR':=A0_.mk HR
           clear HR
           go_wp2
           repeat (go_quiet (fail);try go_wp2)
           refine wp_normal' ?_
           refine start_ (n:=7) (S:=fun w' => w'.cell? ⟨gb239,0,none⟩ = some (.int .u8 106) ∧ w'.cell? ⟨gb239,1,none⟩ = some (.int .i64 pa) ∧ (Instr.lookup 128 (.map (some w.heap.size)) (.agg #[.int .u8 106,.int .i64 pa]) false).run Tryd.prog w' = .ok (.int .i64 0) w') (ds:=[6]) #[false,false,false,false,false,false,false] (by kernel_rfl) rfl rfl ⟨hcz9_0,hcz9_1,(lookup83 ⟨_,pa⟩ w8.drew w.heap.size n (l0.take n) HM8.out).trans (by rw [HSEEN.out];rfl)⟩ (fun hHeld => ?_)
           refine pure_ (i:=0) (N:=some 43) (v:=?_) (a':=?_) #[true,false,false,false,false,false,false] rfl rfl (by kernel_rfl) (fun _ _ _ h => by cases h.1) (Or.inl ⟨by rfl,?_⟩) ?_ ?_
           rotate_left
           ·intro w'
            go_simp
            with_reducible rfl
           rotate_left
           ·simp only [Act.put,List.setIfInBounds_toArray,List.set_cons_zero,List.set_cons_succ]
            rfl
           refine take_ (i:=1) (N:=some 44) (v:=?_) (a':=?_) #[true,true,false,false,false,false,false] rfl rfl (by kernel_rfl) (fun _ _ _ h => by cases h.1) (Or.inl ⟨by rfl,?_⟩) hHeld ?_ ?_
           rotate_left
           ·intro w' s0
            obtain ⟨s1,s2,s3⟩:=s0
            go_simp
            with_reducible rfl
           rotate_left
           ·simp only [Act.put,List.setIfInBounds_toArray,List.set_cons_zero,List.set_cons_succ]
            rfl
           refine take_ (i:=2) (N:=some 45) (v:=?_) (a':=?_) #[true,true,true,false,false,false,false] rfl rfl (by kernel_rfl) (fun _ _ _ h => by cases h.1) (Or.inl ⟨by rfl,?_⟩) hHeld ?_ ?_
           rotate_left
           ·intro w' s0
            obtain ⟨s1,s2,s3⟩:=s0
            go_simp
            with_reducible rfl
           rotate_left
           ·simp only [Act.put,List.setIfInBounds_toArray,List.set_cons_zero,List.set_cons_succ]
            rfl
           refine pure_ (i:=3) (N:=some 46) (v:=?_) (a':=?_) #[true,true,true,true,false,false,false] rfl rfl (by kernel_rfl) (fun _ _ _ h => by cases h.1) (Or.inl ⟨by rfl,?_⟩) ?_ ?_
           rotate_left
           ·intro w'
            go_simp
            with_reducible rfl
           rotate_left
           ·simp only [Act.put,List.setIfInBounds_toArray,List.set_cons_zero,List.set_cons_succ]
            rfl
           have hMd : w8.drew.heap[w.heap.size]? = some (.map (esOf (l0.take n)) n):=HM8.out
           have hlt1 : (l0.take n).length = n:=by simp;omega
           have hme : (Instr.mapEntry 128 (.map (some w.heap.size)) (.agg #[.int .u8 106,.int .i64 pa])).run Tryd.prog w8.drew = .ok (.tuple #[.int .i64 0,.int .i64 n]) (w8.drew.putObj w.heap.size (.map ((esOf (l0.take n)).push { key:=kv ⟨106,pa⟩,val:=.int .i64 0,born:=n }) (n + 1))):=mapEntry83 ⟨106,pa⟩ w8.drew w.heap.size n (l0.take n) hlt1.symm HSEEN.out hMd
           have hput:=fun o => heap_put (w:=w8.drew) (r:=w.heap.size) (o':=o) hMd
           generalize hW9 : w8.drew.putObj w.heap.size (.map ((esOf (l0.take n)).push { key:=kv ⟨106,pa⟩,val:=.int .i64 0,born:=n }) (n + 1)) = w9 at hme
           have hM9 : w9.heap[w.heap.size]? = some (.map ((esOf (l0.take n)).push { key:=kv ⟨106,pa⟩,val:=.int .i64 0,born:=n }) (n + 1)):=by rw [← hW9];exact (hput _).1
           have hC9 : w9.heap[gb239]? = some (.cells #[.int .u8 106,.int .i64 pa] 83 (0,0)):=by rw [← hW9];exact ((hput _).2 gb239 (by have:=GE239.out;omega)).trans HK8.out
           have hB9 : Below w.heap.size w w9:=by rw [← hW9];exact (below_drew HB8.out).grown (grownBy_putObj' _ _ _) (below_drew HB8.out).size (fun k e => by injection e with e;omega)
           refine one_ (i:=4) (N:=some 47) #[true,true,true,true,true,false,false] rfl rfl (by kernel_rfl) (by decide) (fun K hK => ?_)
           refine value_ (v:=.tuple #[.int .i64 0,.int .i64 n]) (w1:=w9) rfl rfl ?_ ?_
           ·go_simp
           refine hK.out _ _ ⟨(bC_ hC9 0).trans rfl,(bC_ hC9 1).trans rfl,lookup83_new ⟨106,pa⟩ w9 _ _ _ _ HSEEN.out hM9⟩ (fun hHeld2 => ?_)
           clear hK K
           refine norm_ (a':=?_) ?_ ?_
           rotate_left
           ·show Act.put _ (some 47) _ = _
            simp only [Act.put,List.setIfInBounds_toArray,List.set_cons_zero,List.set_cons_succ]
            rfl
           refine pure_ (i:=5) (N:=some 48) (v:=?_) (a':=?_) #[true,true,true,true,true,true,false] rfl rfl (by kernel_rfl) (fun _ _ _ h => by cases h.1) (Or.inl ⟨by rfl,?_⟩) ?_ ?_
           rotate_left
           ·intro w'
            go_simp
            with_reducible rfl
           rotate_left
           ·simp only [Act.put,List.setIfInBounds_toArray,List.set_cons_zero,List.set_cons_succ]
            rfl
           have hes:=entryStore83 ⟨106,pa⟩ w9 w.heap.size n (l0.take n) hlt1.symm hM9
           rw [← HT.out] at hes
           have hput9:=fun o => heap_put (w:=w9) (r:=w.heap.size) (o':=o) hM9
           generalize hW10 : w9.putObj w.heap.size (.map (esOf (l0.take (n + 1))) (n + 1)) = w10 at hes
           have hM10 : w10.heap[w.heap.size]? = some (.map (esOf (l0.take (n + 1))) (n + 1)):=by rw [← hW10];exact (hput9 _).1
           have hB10 : Below w.heap.size w w10:=by rw [← hW10];exact hB9.grown (grownBy_putObj' _ _ _) hB9.size (fun k e => by injection e with e;omega)
           refine last_ (i:=6) (N:=none) #[true,true,true,true,true,true,true] rfl rfl (by kernel_rfl) (by decide) (fun K hK => ?_)
           refine skip_ (w1:=w10) rfl rfl ?_ ?_
           ·go_simp
            rw [show IntKind.i64.wrap (1 : Int) = 1 by decide,hes]
            rfl
           refine hK.out _ _ ?_
           clear hK K
           refine done_ (by kernel_rfl) ⟨rfl,?_⟩
           have HM10:=A0_.mk hM10
           have HB10:=A0_.mk hB10
           clear hM10 hB10
           clear hes hput9 hput hW9 hW10 hM9 hC9 hB9 hme hMd hlt1 hlk hcz9_0 hcz9_1
           rename_i hKK
           refine hKK _ _ ?_
           go_wp2
           repeat (go_quiet (fail);try go_wp2)
           go_roundg k1
           case measure => omega
           case rel => exact ⟨n + 1,by go_num,⟨by have:=HK.out;omega⟩,⟨by omega⟩,HR',HM10,HB10⟩
       ·have m2b : (pk == 106) = false:=by simp [m2]
        have m2c : (pk != 106) = true:=by simp [m2]
        have HR : (121 : Int) = r:=by rw [← HS.out];unfold propsLoop;rw [if_neg];rintro ⟨h1,h2⟩;(first|(rw [HSEEN.out] at h2;cases h2;done)|(unfold propFits at h1;simp at h1;omega))
        subst HR
        go_wp2
        repeat (go_quiet (fail);try go_wp2)
        go_ret
        exact ⟨rfl,HB8.out⟩
     ·have c4b0 : decide ((n : Int) < (l0.length : Int)) = false:=decide_eq_false (by omega)
      go_wp2
      repeat (go_quiet (fail);try go_wp2)
      go_ret
      have hn : n = l0.length:=by have:=HN.out;omega
      have hp:=HP.out
      rw [hn,List.drop_length] at hp
      exact ⟨by rw [← hp];rfl,HB.out⟩
end Go.Proofs.YtojepjkpnponoaaDoor.Stim

