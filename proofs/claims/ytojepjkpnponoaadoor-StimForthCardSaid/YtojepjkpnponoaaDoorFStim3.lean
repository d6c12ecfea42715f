import Derived.Test.YtojepjkpnponoaaDoorFStim0
import Derived.Test.YtojepjkpnponoaaDoorFGV
import Derived.Test.YtojepjkpnponoaaDoorFGLine
import Derived.Test.YtojepjkpnponoaaDoorFGNumber
import Derived.Test.YtojepjkpnponoaaDoorFGRow
namespace Go.Proofs.YtojepjkpnponoaaDoor.Stim
open Go.RowKit Go.Proofs.YtojepjkpnponoaaDoorW.PrintWords Go.Proofs.YtojepjkpnponoaaDoorW.PrintLast Go.Proofs.YtojepjkpnponoaaDoorW.PrintMore
attribute [local go_sem] max2_int min2_int max_two min_two max_three min_three max_four min_four
set_option linter.unusedVariables false
set_option linter.unusedSimpArgs false
def stim_reader_wrong.f (s0_0 : ByteArray) (s0_1 : Int) (s0_2 : Int) (s0_3 : Int) (a1 : Int) : Option (Int × Int × ByteArray × Int × Int × Int):=some (s0_1,a1,s0_0,s0_1,s0_2,s0_3)
set_option maxHeartbeats 8000000 in
set_option maxRecDepth 100000 in
theorem stim_reader_wrong.calls (g : Nat) (s0_0 : ByteArray) (s0_1 : Int) (s0_2 : Int) (s0_3 : Int) (a1 : Int) (r1 : Int) (r2 : Int) (r3 : ByteArray) (r4 : Int) (r5 : Int) (r6 : Int) (w0 w : World) (hI : IsS98 w0 w g s0_0 s0_1 s0_2 s0_3) (hB : Below w0.heap.size w0 w) (h : stim_reader_wrong.f s0_0 s0_1 s0_2 s0_3 a1 = some (r1,r2,r3,r4,r5,r6)) :
  Calls Tryd.prog 48 #[.pointer (some ⟨g,0,none⟩),.int .i64 a1] w fun e w' => e = .returned (.agg #[.int .i64 r1,.int .i64 r2]) ∧ IsS98 w0 w' g r3 r4 r5 r6 ∧ Below w0.heap.size w0 w' ∧ KeepBut w w' g none:=by
 have hu40:=Tryd.underlying40
 have HI0:=A0_.mk hI
 have HK:=A0_.mk (KeepBut.refl w g none)
 have HL:=A0_.mk hB.size
 clear hI
 have HW0:=A0_.mk hB.size
 have HB:=A0_.mk hB
 clear hB
 have H : (some (s0_1,a1,s0_0,s0_1,s0_2,s0_3)) = some (r1,r2,r3,r4,r5,r6):=h
 clear h
 simp only [Option.some.injEq,Prod.mk.injEq] at H
 obtain ⟨rfl,rfl,rfl,rfl,rfl,rfl⟩:=H
 go_enter Tryd.func48,Tryd.ntmps48
 go_wp2_with (first|((with_reducible refine gate_dst (N:=4) rfl ?_);refine box_event ?hg (N:=4) ?hd (cs:=#[.int .i64 0,.int .i64 0]) (t:=40) ?hr ?_;(case hd => rfl);(case hg => rfl);(case hr => first|(go_simp;done)|(go_simp;rfl));intro gb101 hg w3 hbox hb;have n0_:=A0_.mk (IsS98.below (by repeat (first|(with_reducible first|exact HI0.out|apply IsS98.alloc|apply IsS98.drewN|apply IsS98.drew|apply IsS98.set_0|apply IsS98.set_1|apply IsS98.set_2|apply IsS98.set_3)|exact HI0.out)) hb);have n1_:=A0_.mk (KeepBut.trans (by repeat (first|(with_reducible first|exact HK.out|apply KeepBut.set_|apply keep_drewN|apply keep_drew|apply keep_alloc)|exact HK.out)) (KeepBut.of_below hb g none) (.inl rfl));have n2_:=A0_.mk (below_step (by repeat (first|(with_reducible first|exact HB.out|apply eA_|apply eN_|apply eD_|refine eS_ ?_ (IsS98.ge HI0.out))|exact HB.out)) hb);have n3_:=A0_.mk (hbox);have n4_:=A0_.mk ((by rw [hg];exact (keep_size (w:=w) (g:=g) (row:=none) (by repeat (first|(with_reducible first|exact HK.out|apply KeepBut.set_|apply keep_drewN|apply keep_drew|apply keep_alloc)|exact HK.out))) : w.heap.size ≤ gb101));have n5_:=A0_.mk ((Nat.le_trans HW0.out (by rw [hg];exact (keep_size (w:=w) (g:=g) (row:=none) (by repeat (first|(with_reducible first|exact HK.out|apply KeepBut.set_|apply keep_drewN|apply keep_drew|apply keep_alloc)|exact HK.out))) : w.heap.size ≤ gb101) : w0.heap.size ≤ gb101));have n6_:=A0_.mk ((by rw [hg];exact Nat.ne_of_lt (IsS98.lt (show IsS98 w0 _ g s0_0 s0_1 s0_2 s0_3 from by repeat (first|(with_reducible first|exact HI0.out|apply IsS98.alloc|apply IsS98.drewN|apply IsS98.drew|apply IsS98.set_0|apply IsS98.set_1|apply IsS98.set_2|apply IsS98.set_3)|exact HI0.out))) : g ≠ gb101));have n7_:=A0_.mk ((by rw [hg];exact Nat.ne_of_gt (IsS98.lt (show IsS98 w0 _ g s0_0 s0_1 s0_2 s0_3 from by repeat (first|(with_reducible first|exact HI0.out|apply IsS98.alloc|apply IsS98.drewN|apply IsS98.drew|apply IsS98.set_0|apply IsS98.set_1|apply IsS98.set_2|apply IsS98.set_3)|exact HI0.out))) : gb101 ≠ g));clear HI0;clear HK;clear HB;have HI0:=n0_;have HK:=n1_;have HB:=n2_;have BK101:=n3_;have GW101:=n4_;have GE101:=n5_;have NB0_101:=n6_;have NB101_0:=n7_;clear n0_ n1_ n2_ n3_ n4_ n5_ n6_ n7_;clear hb hbox hg;obtain ⟨HGz4,hgz4⟩:=HI0.out;have hcz4_0:=cellS98_0 HGz4;have hcz4_1:=cellS98_1 HGz4;have hcz4_2:=cellS98_2 HGz4;have hcz4_3:=cellS98_3 HGz4;have hfz4_0:=bF_ HGz4 0;have hfz4_1:=bF_ HGz4 1;have hfz4_2:=bF_ HGz4 2;have hfz4_3:=bF_ HGz4 3;clear HGz4 hgz4;have hnb5:=NB101_0.out;have hnc5:=NB0_101.out;have hcz6_0 : w3.cell? ⟨gb101,0,none⟩ = some (.int .i64 0):=(bC_ BK101.out 0).trans rfl;have hcz6_1 : w3.cell? ⟨gb101,1,none⟩ = some (.int .i64 0):=(bC_ BK101.out 1).trans rfl;have hfz6_0:=bF_ BK101.out 0;have hfz6_1:=bF_ BK101.out 1))
 refine bodyPost_ret (results_cell_row rfl _ _ gb101 40 #[.int .i64 s0_1,.int .i64 a1] (0,0) _ rfl (by (with_reducible repeat (first|refine bN_ ?_ _|refine bD_ ?_|refine bA_ ?_ _));refine blk_put (cs:=#[.int .i64 s0_1,.int .i64 0]) ?_ 1 _ rfl;(with_reducible repeat (first|refine bN_ ?_ _|refine bD_ ?_|refine bA_ ?_ _));refine blk_put (cs:=#[.int .i64 0,.int .i64 0]) ?_ 0 _ rfl;(with_reducible repeat (first|refine bN_ ?_ _|refine bD_ ?_|refine bA_ ?_ _));exact BK101.out) Tryd.underlying40 rfl (by kernel_rfl)) rfl ?_
 exact ⟨by first|rfl|(simp [errW_none,errW_some] <;> rfl)|(simp [*,errW_none,errW_some] <;> rfl),by repeat (first|(with_reducible first|exact HI0.out|apply IsS98.alloc|apply IsS98.drewN|apply IsS98.drew|apply IsS98.set_0|apply IsS98.set_1|apply IsS98.set_2|apply IsS98.set_3|refine IsS98.far ?_ NB0_101.out _)|exact HI0.out),by repeat (first|(with_reducible first|exact HB.out|apply eA_|apply eN_|apply eD_|refine eS_ ?_ (IsS98.ge HI0.out)|refine eS_ ?_ GE101.out)|exact HB.out),by repeat (first|(with_reducible first|exact HK.out|apply KeepBut.set_|apply keep_drewN|apply keep_drew|apply keep_alloc|refine keep_far ?_ GW101.out _)|exact HK.out)⟩
def stim_reader_skip.f (s0_0 : ByteArray) (s0_1 : Int) (s0_2 : Int) (s0_3 : Int) (a1 : ByteArray) : Option (ByteArray × Int × Int × Int):=some (s0_0,wrap64 (s0_1 + (wrap64 ((a1.size : Int) + 1))),s0_2,s0_3)
set_option maxHeartbeats 8000000 in
set_option maxRecDepth 100000 in
theorem stim_reader_skip.calls (g : Nat) (s0_0 : ByteArray) (s0_1 : Int) (s0_2 : Int) (s0_3 : Int) (a1 : ByteArray) (r1 : ByteArray) (r2 : Int) (r3 : Int) (r4 : Int) (w0 w : World) (hI : IsS98 w0 w g s0_0 s0_1 s0_2 s0_3) (hB : Below w0.heap.size w0 w) (h : stim_reader_skip.f s0_0 s0_1 s0_2 s0_3 a1 = some (r1,r2,r3,r4)) :
  Calls Tryd.prog 74 #[.pointer (some ⟨g,0,none⟩),.string a1] w fun e w' => e = .returned (.tuple #[]) ∧ IsS98 w0 w' g r1 r2 r3 r4 ∧ Below w0.heap.size w0 w' ∧ KeepBut w w' g none:=by
 have HI0:=A0_.mk hI
 have HK:=A0_.mk (KeepBut.refl w g none)
 have HL:=A0_.mk hB.size
 clear hI
 have HW0:=A0_.mk hB.size
 have HB:=A0_.mk hB
 clear hB
 have H : (some (s0_0,wrap64 (s0_1 + (wrap64 ((a1.size : Int) + 1))),s0_2,s0_3)) = some (r1,r2,r3,r4):=h
 clear h
 simp only [Option.some.injEq,Prod.mk.injEq] at H
 obtain ⟨rfl,rfl,rfl,rfl⟩:=H
 obtain ⟨HGz3,hgz3⟩:=HI0.out
 have hcz3_0:=cellS98_0 HGz3
 have hcz3_1:=cellS98_1 HGz3
 have hcz3_2:=cellS98_2 HGz3
 have hcz3_3:=cellS98_3 HGz3
 have hfz3_0:=bF_ HGz3 0
 have hfz3_1:=bF_ HGz3 1
 have hfz3_2:=bF_ HGz3 2
 have hfz3_3:=bF_ HGz3 3
 clear HGz3 hgz3
 go_enter Tryd.func74,Tryd.ntmps74
 go_wp2
 first|go_end0|((try simp only [Exit.inBlock,Exit.then]);refine bodyPost_ret (results_none rfl _ _ _) rfl ?_)
 exact ⟨by first|rfl|(simp [errW_none,errW_some] <;> rfl)|(simp [*,errW_none,errW_some] <;> rfl),by repeat (first|(with_reducible first|exact HI0.out|apply IsS98.alloc|apply IsS98.drewN|apply IsS98.drew|apply IsS98.set_0|apply IsS98.set_1|apply IsS98.set_2|apply IsS98.set_3)|exact HI0.out),by repeat (first|(with_reducible first|exact HB.out|apply eA_|apply eN_|apply eD_|refine eS_ ?_ (IsS98.ge HI0.out))|exact HB.out),by repeat (first|(with_reducible first|exact HK.out|apply KeepBut.set_|apply keep_drewN|apply keep_drew|apply keep_alloc)|exact HK.out)⟩
def stringslite_HasPrefix.f (a0 : ByteArray) (a1 : ByteArray) : Option (Bool):=if (a0.size : Int) ≥ (a1.size : Int) then (if 0 ≤ (a1.size : Int) then (if (a1.size : Int) ≤ (a0.size : Int) then (some ((a0.extract 0 ((a1.size : Int) : Int).toNat).toList == a1.toList)) else (none)) else (none)) else (some false)
set_option maxHeartbeats 8000000 in
set_option maxRecDepth 100000 in
theorem stringslite_HasPrefix.calls (a0 : ByteArray) (a1 : ByteArray) (r : Bool) (w : World) (h : stringslite_HasPrefix.f a0 a1 = some r) :
  Calls Tryd.prog 132 #[.string a0,.string a1] w fun e w' => e = .returned (.bool r) ∧ Drawn0 w w':=by
 have H : (if (a0.size : Int) ≥ (a1.size : Int) then (if 0 ≤ (a1.size : Int) then (if (a1.size : Int) ≤ (a0.size : Int) then (some ((a0.extract 0 ((a1.size : Int) : Int).toNat).toList == a1.toList)) else (none)) else (none)) else (some false)) = some r:=h
 clear h
 by_cases c3 : (a0.size : Int) ≥ (a1.size : Int)
 ·rw [if_pos c3] at H
  have c3b0 : decide ((a1.size : Int) ≤ (a0.size : Int)) = true:=decide_eq_true c3
  have c3b1 : decide (a1.size ≤ a0.size) = true:=decide_eq_true (Int.ofNat_le.mp c3)
  clear c3
  by_cases c4 : 0 ≤ (a1.size : Int)
  ·rw [if_pos c4] at H
   have c4b0:=eq_true c4
   have c4b1 : decide (0 ≤ (a1.size : Int)) = true:=decide_eq_true c4
   clear c4
   by_cases c5 : (a1.size : Int) ≤ (a0.size : Int)
   ·rw [if_pos c5] at H
    have c5b0:=eq_true c5
    have c5b1 : decide ((a1.size : Int) ≤ (a0.size : Int)) = true:=decide_eq_true c5
    clear c5
    obtain rfl:=Option.some.inj H
    go_enter Tryd.func132,Tryd.ntmps132
    go_wp2
    go_ret
    exact ⟨by first|rfl|(simp;done)|(simp [*];done),by repeat (first|exact Drawn0.refl _|apply Drawn0.step)⟩
   ·rw [if_neg c5] at H
    exact absurd H (by simp)
  ·rw [if_neg c4] at H
   exact absurd H (by simp)
 ·rw [if_neg c3] at H
  have c3b0 : decide ((a1.size : Int) ≤ (a0.size : Int)) = false:=decide_eq_false c3
  have c3b1 : decide (a1.size ≤ a0.size) = false:=decide_eq_false (fun h => c3 (Int.ofNat_le.mpr h))
  clear c3
  obtain rfl:=Option.some.inj H
  go_enter Tryd.func132,Tryd.ntmps132
  go_wp2
  go_ret
  exact ⟨by first|rfl|(simp;done)|(simp [*];done),by repeat (first|exact Drawn0.refl _|apply Drawn0.step)⟩
def stringslite_CutPrefix.f (a0 : ByteArray) (a1 : ByteArray) : Option (ByteArray × Bool):=(stringslite_HasPrefix.f a0 a1).bind fun t102 => (if t102 = true then (if 0 ≤ (a1.size : Int) then (if (a1.size : Int) ≤ (a0.size : Int) then (some (a0.extract ((a1.size : Int) : Int).toNat a0.size,true)) else (none)) else (none)) else (some (a0,false)))
set_option maxHeartbeats 8000000 in
set_option maxRecDepth 100000 in
theorem stringslite_CutPrefix.calls (a0 : ByteArray) (a1 : ByteArray) (r1 : ByteArray) (r2 : Bool) (w : World) (h : stringslite_CutPrefix.f a0 a1 = some (r1,r2)) :
  Calls Tryd.prog 114 #[.string a0,.string a1] w fun e w' => e = .returned (.tuple #[.string r1,.bool r2]) ∧ Drawn0 w w':=by
 have H : ((stringslite_HasPrefix.f a0 a1).bind fun t102 => (if t102 = true then (if 0 ≤ (a1.size : Int) then (if (a1.size : Int) ≤ (a0.size : Int) then (some (a0.extract ((a1.size : Int) : Int).toNat a0.size,true)) else (none)) else (none)) else (some (a0,false)))) = some (r1,r2):=h
 clear h
 replace H:=Option.bind_eq_some_iff.mp H
 obtain ⟨t102,A30,H⟩:=H
 replace H : (if t102 = true then (if 0 ≤ (a1.size : Int) then (if (a1.size : Int) ≤ (a0.size : Int) then (some (a0.extract ((a1.size : Int) : Int).toNat a0.size,true)) else (none)) else (none)) else (some (a0,false))) = some (r1,r2):=H
 have A3:=A0_.mk A30
 clear A30
 by_cases c4 : t102 = true
 ·subst c4
  have H1 : (if 0 ≤ (a1.size : Int) then (if (a1.size : Int) ≤ (a0.size : Int) then (some (a0.extract ((a1.size : Int) : Int).toNat a0.size,true)) else (none)) else (none)) = some (r1,r2):=by rw [if_pos rfl] at H;exact H
  clear H
  have H:=H1
  clear H1
  by_cases c5 : 0 ≤ (a1.size : Int)
  ·rw [if_pos c5] at H
   have c5b0:=eq_true c5
   have c5b1 : decide (0 ≤ (a1.size : Int)) = true:=decide_eq_true c5
   clear c5
   by_cases c6 : (a1.size : Int) ≤ (a0.size : Int)
   ·rw [if_pos c6] at H
    have c6b0:=eq_true c6
    have c6b1 : decide ((a1.size : Int) ≤ (a0.size : Int)) = true:=decide_eq_true c6
    clear c6
    simp only [Option.some.injEq,Prod.mk.injEq] at H
    obtain ⟨rfl,rfl⟩:=H
    go_enter Tryd.func114,Tryd.ntmps114
    go_wp2_with (first|((with_reducible refine gate_callee (f:=132) rfl ?_);refine goesL_ (some 8) rfl rfl Tryd.func132 (by kernel_rfl) rfl #[.string a0,.string a1] rfl (by (try simp only [List.map_toArray,List.map_cons,List.map_nil]);first|done|rfl|(simp only [List.length_drop,List.length_take];rfl)) ?_;(with_reducible refine (stringslite_HasPrefix.calls a0 a1 true _ A3.out).mono ?_);rintro e w' ⟨rfl,⟨nd,rfl⟩⟩;refine ⟨_,rfl,?_⟩))
    go_ret2
    exact ⟨by first|rfl|(simp;done)|(simp [*];done),by repeat (first|exact Drawn0.refl _|apply Drawn0.step)⟩
   ·rw [if_neg c6] at H
    exact absurd H (by simp)
  ·rw [if_neg c5] at H
   exact absurd H (by simp)
 ·replace c4:=Bool.eq_false_iff.mpr c4
  subst c4
  have H1 : (some (a0,false)) = some (r1,r2):=by rw [if_neg (show ¬ (false = true) by decide)] at H;exact H
  clear H
  have H:=H1
  clear H1
  simp only [Option.some.injEq,Prod.mk.injEq] at H
  obtain ⟨rfl,rfl⟩:=H
  go_enter Tryd.func114,Tryd.ntmps114
  go_wp2_with (first|((with_reducible refine gate_callee (f:=132) rfl ?_);refine goesL_ (some 8) rfl rfl Tryd.func132 (by kernel_rfl) rfl #[.string a0,.string a1] rfl (by (try simp only [List.map_toArray,List.map_cons,List.map_nil]);first|done|rfl|(simp only [List.length_drop,List.length_take];rfl)) ?_;(with_reducible refine (stringslite_HasPrefix.calls a0 a1 false _ A3.out).mono ?_);rintro e w' ⟨rfl,⟨nd,rfl⟩⟩;refine ⟨_,rfl,?_⟩))
  go_ret2
  exact ⟨by first|rfl|(simp;done)|(simp [*];done),by repeat (first|exact Drawn0.refl _|apply Drawn0.step)⟩
def strings_CutPrefix.f (a0 : ByteArray) (a1 : ByteArray) : Option (ByteArray × Bool):=(stringslite_CutPrefix.f a0 a1).bind fun bt103 => (some (bt103.1,bt103.2))
set_option maxHeartbeats 8000000 in
set_option maxRecDepth 100000 in
theorem strings_CutPrefix.calls (a0 : ByteArray) (a1 : ByteArray) (r1 : ByteArray) (r2 : Bool) (w : World) (h : strings_CutPrefix.f a0 a1 = some (r1,r2)) :
  Calls Tryd.prog 96 #[.string a0,.string a1] w fun e w' => e = .returned (.tuple #[.string r1,.bool r2]) ∧ Drawn0 w w':=by
 have H : ((stringslite_CutPrefix.f a0 a1).bind fun bt103 => (some (bt103.1,bt103.2))) = some (r1,r2):=h
 clear h
 replace H:=Option.bind_eq_some_iff.mp H
 obtain ⟨⟨t103,t104⟩,A30,H⟩:=H
 replace H : (some (t103,t104)) = some (r1,r2):=H
 have A3:=A0_.mk A30
 clear A30
 simp only [Option.some.injEq,Prod.mk.injEq] at H
 obtain ⟨rfl,rfl⟩:=H
 go_enter Tryd.func96,Tryd.ntmps96
 go_wp2_with (first|((with_reducible refine gate_callee (f:=114) rfl ?_);refine goesL_ (some 8) rfl rfl Tryd.func114 (by kernel_rfl) rfl #[.string a0,.string a1] rfl (by (try simp only [List.map_toArray,List.map_cons,List.map_nil]);first|done|rfl|(simp only [List.length_drop,List.length_take];rfl)) ?_;(with_reducible refine (stringslite_CutPrefix.calls a0 a1 t103 t104 _ A3.out).mono ?_);rintro e w' ⟨rfl,⟨nd,rfl⟩⟩;refine ⟨_,rfl,?_⟩))
 go_ret2
 exact ⟨by first|rfl|(simp;done)|(simp [*];done),by repeat (first|exact Drawn0.refl _|apply Drawn0.step)⟩
mutual
def stim_reader_trace.j0 : Nat → ByteArray → List Bool → Bool → ByteArray → Int → Int → Int → Int → Option (List Bool × (List (List Bool)) × Int × Bool × ByteArray × Int × Int × Int)
 |0,_,_,_,_,_,_,_,_ => none
 |k + 1,x5,x7,x37,x1000,x1001,x1002,x1003,x107002 => if x37 = true then (some (([] : List Bool),([] : List (List Bool)),x107002,false,x1000,x1001,x1002,x1003)) else ((stim_reader_skip.f x1000 x1001 x1002 x1003 x5).bind fun bt117 => (stim_reader_trace.l0 k bt117.1 bt117.2.1 bt117.2.2.1 bt117.2.2.2 x7 ([] : List (List Bool)) x107002))
def stim_reader_trace.l0 : Nat → ByteArray → Int → Int → Int → List Bool → List (List Bool) → Int → Option (List Bool × (List (List Bool)) × Int × Bool × ByteArray × Int × Int × Int)
 |0,_,_,_,_,_,_,_ => none
 |k + 1,x1000,x1001,x1002,x1003,x107000,x107001,x107002 => (stim_reader_line.f x1000 x1001 x1002 x1003).bind fun bt121 => (if bt121.2.1 = true then (if (x107001.length : Int) > 0 then (if bt121.1.toList = ([46] : List UInt8) then (some (x107000,x107001,x107002,true,bt121.2.2.1,bt121.2.2.2.1,bt121.2.2.2.2.1,bt121.2.2.2.2.2)) else ((strings_CutPrefix.f bt121.1 (⟨#[99,32,108,111,111,112,32]⟩ : ByteArray)).bind fun bt127 => ((stim_number.f bt127.1).bind fun bt129 => (if bt127.2 = true then (if bt129.2 = true then (if bt129.1 < (x107001.length : Int) then ((stim_reader_skip.f bt121.2.2.1 bt121.2.2.2.1 bt121.2.2.2.2.1 bt121.2.2.2.2.2 bt121.1).bind fun bt131 => (some (x107000,x107001,bt129.1,true,bt131.1,bt131.2.1,bt131.2.2.1,bt131.2.2.2))) else (stim_reader_trace.j2 k bt121.1 bt121.2.2.1 bt121.2.2.2.1 bt121.2.2.2.2.1 bt121.2.2.2.2.2 x107000 x107001 x107002)) else (stim_reader_trace.j2 k bt121.1 bt121.2.2.1 bt121.2.2.2.1 bt121.2.2.2.2.1 bt121.2.2.2.2.2 x107000 x107001 x107002)) else (stim_reader_trace.j2 k bt121.1 bt121.2.2.1 bt121.2.2.2.1 bt121.2.2.2.2.1 bt121.2.2.2.2.2 x107000 x107001 x107002))))) else (stim_reader_trace.j2 k bt121.1 bt121.2.2.1 bt121.2.2.2.1 bt121.2.2.2.2.1 bt121.2.2.2.2.2 x107000 x107001 x107002)) else (some (x107000,x107001,x107002,false,bt121.2.2.1,bt121.2.2.2.1,bt121.2.2.2.2.1,bt121.2.2.2.2.2)))
def stim_reader_trace.j2 : Nat → ByteArray → ByteArray → Int → Int → Int → List Bool → List (List Bool) → Int → Option (List Bool × (List (List Bool)) × Int × Bool × ByteArray × Int × Int × Int)
 |0,_,_,_,_,_,_,_,_ => none
 |k + 1,x9,x1000,x1001,x1002,x1003,x107000,x107001,x107002 => (stim_row.f x9 x1003).bind fun bt135 => (if bt135.2 = true then (if (x107001.length : Int) = 512 then (some (x107000,x107001,x107002,false,x1000,x1001,x1002,x1003)) else (if x107001.length < 5864062014805 then ((stim_reader_skip.f x1000 x1001 x1002 x1003 x9).bind fun bt142 => (stim_reader_trace.l0 k bt142.1 bt142.2.1 bt142.2.2.1 bt142.2.2.2 x107000 (x107001 ++ [bt135.1]) x107002)) else (none))) else (some (x107000,x107001,x107002,false,x1000,x1001,x1002,x1003)))
end
def stim_reader_trace.f (k : Nat) (s0_0 : ByteArray) (s0_1 : Int) (s0_2 : Int) (s0_3 : Int) : Option (List Bool × (List (List Bool)) × Int × Bool × ByteArray × Int × Int × Int):=(stim_reader_line.f s0_0 s0_1 s0_2 s0_3).bind fun bt107 => ((stim_row.f bt107.1 bt107.2.2.2.2.1).bind fun bt113 => (if bt107.2.1 = true then (stim_reader_trace.j0 k bt107.1 bt113.1 (!bt113.2) bt107.2.2.1 bt107.2.2.2.1 bt107.2.2.2.2.1 bt107.2.2.2.2.2 (-1)) else (stim_reader_trace.j0 k bt107.1 bt113.1 true bt107.2.2.1 bt107.2.2.2.1 bt107.2.2.2.2.1 bt107.2.2.2.2.2 (-1))))
set_option maxHeartbeats 8000000 in
set_option maxRecDepth 100000 in
theorem stim_reader_trace.calls (k : Nat) (g : Nat) (s0_0 : ByteArray) (s0_1 : Int) (s0_2 : Int) (s0_3 : Int) (r1 : List Bool) (r2 : List (List Bool)) (r3 : Int) (r4 : Bool) (r5 : ByteArray) (r6 : Int) (r7 : Int) (r8 : Int) (w0 w : World) (hG : GV w0) (hI : IsS98 w0 w g s0_0 s0_1 s0_2 s0_3) (hB : Below w0.heap.size w0 w) (h : stim_reader_trace.f k s0_0 s0_1 s0_2 s0_3 = some (r1,r2,r3,r4,r5,r6,r7,r8)) :
  Calls Tryd.prog 76 #[.pointer (some ⟨g,0,none⟩)] w fun e w' => ∃ v0_ v1_ : Value,e = .returned (.tuple #[.agg #[v0_,v1_,.int .i64 r3],.bool r4]) ∧ Kd.R Kd.bool 4 w' w.heap.size (fun _ => True) v0_ r1 ∧ Kd.S (Kd.slice 4 Kd.bool) 23 w' w.heap.size (fun k_ => some k_ ≠ (v0_ : Value).ownBlock) v1_ r2 ∧ IsS98 w0 w' g r5 r6 r7 r8 ∧ Below w0.heap.size w0 w' ∧ KeepBut w w' g none:=by
 have hu26:=Tryd.underlying26
 have HI0:=A0_.mk hI
 have HK:=A0_.mk (KeepBut.refl w g none)
 have HL:=A0_.mk hB.size
 clear hI
 have HG:=A0_.mk hG
 clear hG
 have HW0:=A0_.mk hB.size
 have HB:=A0_.mk hB
 clear hB
 have H : ((stim_reader_line.f s0_0 s0_1 s0_2 s0_3).bind fun bt107 => ((stim_row.f bt107.1 bt107.2.2.2.2.1).bind fun bt113 => (if bt107.2.1 = true then (stim_reader_trace.j0 k bt107.1 bt113.1 (!bt113.2) bt107.2.2.1 bt107.2.2.2.1 bt107.2.2.2.2.1 bt107.2.2.2.2.2 (-1)) else (stim_reader_trace.j0 k bt107.1 bt113.1 true bt107.2.2.1 bt107.2.2.2.1 bt107.2.2.2.2.1 bt107.2.2.2.2.2 (-1))))) = some (r1,r2,r3,r4,r5,r6,r7,r8):=h
 clear h
 replace H:=Option.bind_eq_some_iff.mp H
 obtain ⟨⟨t107,t108,t109,t110,t111,t112⟩,A20,H⟩:=H
 replace H : ((stim_row.f t107 t111).bind fun bt113 => (if t108 = true then (stim_reader_trace.j0 k t107 bt113.1 (!bt113.2) t109 t110 t111 t112 (-1)) else (stim_reader_trace.j0 k t107 bt113.1 true t109 t110 t111 t112 (-1)))) = some (r1,r2,r3,r4,r5,r6,r7,r8):=H
 have A2:=A0_.mk A20
 clear A20
 replace H:=Option.bind_eq_some_iff.mp H
 obtain ⟨⟨t113,t114⟩,A30,H⟩:=H
 replace H : (if t108 = true then (stim_reader_trace.j0 k t107 t113 (!t114) t109 t110 t111 t112 (-1)) else (stim_reader_trace.j0 k t107 t113 true t109 t110 t111 t112 (-1))) = some (r1,r2,r3,r4,r5,r6,r7,r8):=H
 have A3:=A0_.mk A30
 clear A30
 have HC4:=A0_.mk H
 clear H
 go_enter Tryd.func76,Tryd.ntmps76
 go_upto_region 4 with (first|((with_reducible refine gate_dst (N:=2) rfl ?_);(try (refine gate_guard (by rfl) ?_;dsimp only));refine box_event ?hg (N:=2) ?hd (cs:=#[.slice none 0 0,.slice none 0 0,.int .i64 0]) (t:=26) ?hr ?_;(case hd => rfl);(case hg => rfl);(case hr => first|(go_simp;done)|(go_simp;rfl));intro gb105 hg w5 hbox hb;have n0_:=A0_.mk (IsS98.below (by repeat (first|(with_reducible first|exact HI0.out|apply IsS98.alloc|apply IsS98.drewN|apply IsS98.drew|apply IsS98.set_0|apply IsS98.set_1|apply IsS98.set_2|apply IsS98.set_3)|exact HI0.out)) hb);have n1_:=A0_.mk (KeepBut.trans (by repeat (first|(with_reducible first|exact HK.out|apply KeepBut.set_|apply keep_drewN|apply keep_drew|apply keep_alloc)|exact HK.out)) (KeepBut.of_below hb g none) (.inl rfl));have n2_:=A0_.mk (below_step (by repeat (first|(with_reducible first|exact HB.out|apply eA_|apply eN_|apply eD_|refine eS_ ?_ (IsS98.ge HI0.out))|exact HB.out)) hb);have n3_:=A0_.mk (hbox);have n4_:=A0_.mk ((by rw [hg];exact (keep_size (w:=w) (g:=g) (row:=none) (by repeat (first|(with_reducible first|exact HK.out|apply KeepBut.set_|apply keep_drewN|apply keep_drew|apply keep_alloc)|exact HK.out))) : w.heap.size ≤ gb105));have n5_:=A0_.mk ((Nat.le_trans HW0.out (by rw [hg];exact (keep_size (w:=w) (g:=g) (row:=none) (by repeat (first|(with_reducible first|exact HK.out|apply KeepBut.set_|apply keep_drewN|apply keep_drew|apply keep_alloc)|exact HK.out))) : w.heap.size ≤ gb105) : w0.heap.size ≤ gb105));have n6_:=A0_.mk ((by rw [hg];exact Nat.ne_of_lt (IsS98.lt (show IsS98 w0 _ g s0_0 s0_1 s0_2 s0_3 from by repeat (first|(with_reducible first|exact HI0.out|apply IsS98.alloc|apply IsS98.drewN|apply IsS98.drew|apply IsS98.set_0|apply IsS98.set_1|apply IsS98.set_2|apply IsS98.set_3)|exact HI0.out))) : g ≠ gb105));have n7_:=A0_.mk ((by rw [hg];exact Nat.ne_of_gt (IsS98.lt (show IsS98 w0 _ g s0_0 s0_1 s0_2 s0_3 from by repeat (first|(with_reducible first|exact HI0.out|apply IsS98.alloc|apply IsS98.drewN|apply IsS98.drew|apply IsS98.set_0|apply IsS98.set_1|apply IsS98.set_2|apply IsS98.set_3)|exact HI0.out))) : gb105 ≠ g));clear HI0;clear HK;clear HB;have HI0:=n0_;have HK:=n1_;have HB:=n2_;have BK105:=n3_;have GW105:=n4_;have GE105:=n5_;have NB0_105:=n6_;have NB105_0:=n7_;clear n0_ n1_ n2_ n3_ n4_ n5_ n6_ n7_;clear hb hbox hg)|((with_reducible refine gate_dst (N:=4) rfl ?_);(try (refine gate_guard (by rfl) ?_;dsimp only));refine box_event ?hg (N:=4) ?hd (cs:=#[.slice none 0 0,.slice none 0 0,.int .i64 0]) (t:=26) ?hr ?_;(case hd => rfl);(case hg => rfl);(case hr => first|(go_simp;done)|(go_simp;rfl));intro gb106 hg w6 hbox hb;have n0_:=A0_.mk (IsS98.below (by repeat (first|(with_reducible first|exact HI0.out|apply IsS98.alloc|apply IsS98.drewN|apply IsS98.drew|apply IsS98.set_0|apply IsS98.set_1|apply IsS98.set_2|apply IsS98.set_3|refine IsS98.far ?_ NB0_105.out _)|exact HI0.out)) hb);have n1_:=A0_.mk (blk_below (g:=gb105) (o:=.cells #[.slice none 0 0,.slice none 0 0,.int .i64 0] 26 (0,0)) (by (with_reducible repeat (first|refine bN_ ?_ _|refine bD_ ?_|refine bA_ ?_ _));exact BK105.out) hb);have n2_:=A0_.mk (KeepBut.trans (by repeat (first|(with_reducible first|exact HK.out|apply KeepBut.set_|apply keep_drewN|apply keep_drew|apply keep_alloc|refine keep_far ?_ GW105.out _)|exact HK.out)) (KeepBut.of_below hb g none) (.inl rfl));have n3_:=A0_.mk (below_step (by repeat (first|(with_reducible first|exact HB.out|apply eA_|apply eN_|apply eD_|refine eS_ ?_ (IsS98.ge HI0.out)|refine eS_ ?_ GE105.out)|exact HB.out)) hb);have n4_:=A0_.mk (hbox);have n5_:=A0_.mk ((by rw [hg];exact (keep_size (w:=w) (g:=g) (row:=none) (by repeat (first|(with_reducible first|exact HK.out|apply KeepBut.set_|apply keep_drewN|apply keep_drew|apply keep_alloc|refine keep_far ?_ GW105.out _)|exact HK.out))) : w.heap.size ≤ gb106));have n6_:=A0_.mk ((Nat.le_trans HW0.out (by rw [hg];exact (keep_size (w:=w) (g:=g) (row:=none) (by repeat (first|(with_reducible first|exact HK.out|apply KeepBut.set_|apply keep_drewN|apply keep_drew|apply keep_alloc|refine keep_far ?_ GW105.out _)|exact HK.out))) : w.heap.size ≤ gb106) : w0.heap.size ≤ gb106));have n7_:=A0_.mk ((by rw [hg];exact Nat.ne_of_lt (blk_lt (g:=gb105) (o:=.cells #[.slice none 0 0,.slice none 0 0,.int .i64 0] 26 (0,0)) (by (with_reducible repeat (first|refine bN_ ?_ _|refine bD_ ?_|refine bA_ ?_ _));exact BK105.out)) : gb105 ≠ gb106));have n8_:=A0_.mk ((by rw [hg];exact Nat.ne_of_gt (blk_lt (g:=gb105) (o:=.cells #[.slice none 0 0,.slice none 0 0,.int .i64 0] 26 (0,0)) (by (with_reducible repeat (first|refine bN_ ?_ _|refine bD_ ?_|refine bA_ ?_ _));exact BK105.out)) : gb106 ≠ gb105));have n9_:=A0_.mk ((by rw [hg];exact Nat.ne_of_lt (IsS98.lt (show IsS98 w0 _ g s0_0 s0_1 s0_2 s0_3 from by repeat (first|(with_reducible first|exact HI0.out|apply IsS98.alloc|apply IsS98.drewN|apply IsS98.drew|apply IsS98.set_0|apply IsS98.set_1|apply IsS98.set_2|apply IsS98.set_3|refine IsS98.far ?_ NB0_105.out _)|exact HI0.out))) : g ≠ gb106));have n10_:=A0_.mk ((by rw [hg];exact Nat.ne_of_gt (IsS98.lt (show IsS98 w0 _ g s0_0 s0_1 s0_2 s0_3 from by repeat (first|(with_reducible first|exact HI0.out|apply IsS98.alloc|apply IsS98.drewN|apply IsS98.drew|apply IsS98.set_0|apply IsS98.set_1|apply IsS98.set_2|apply IsS98.set_3|refine IsS98.far ?_ NB0_105.out _)|exact HI0.out))) : gb106 ≠ g));clear HI0;clear BK105;clear HK;clear HB;have HI0:=n0_;have BK105:=n1_;have HK:=n2_;have HB:=n3_;have BK106:=n4_;have GW106:=n5_;have GE106:=n6_;have NB105_106:=n7_;have NB106_105:=n8_;have NB0_106:=n9_;have NB106_0:=n10_;clear n0_ n1_ n2_ n3_ n4_ n5_ n6_ n7_ n8_ n9_ n10_;clear hb hbox hg;have hnb7:=NB106_105.out;have hnc7:=NB105_106.out;have hnb8:=NB106_0.out;have hnc8:=NB0_106.out;have hcz9_0 : w6.cell? ⟨gb106,0,none⟩ = some (.slice none 0 0):=(bC_ BK106.out 0).trans rfl;have hcz9_1 : w6.cell? ⟨gb106,1,none⟩ = some (.slice none 0 0):=(bC_ BK106.out 1).trans rfl;have hcz9_2 : w6.cell? ⟨gb106,2,none⟩ = some (.int .i64 0):=(bC_ BK106.out 2).trans rfl;have hfz9_0:=bF_ BK106.out 0;have hfz9_1:=bF_ BK106.out 1;have hfz9_2:=bF_ BK106.out 2)|((with_reducible refine gate_callee (f:=73) rfl ?_);refine goesL_ (some 20) rfl rfl Tryd.func73 (by kernel_rfl) rfl #[.pointer (some ⟨g,0,none⟩)] rfl (by (try simp only [List.map_toArray,List.map_cons,List.map_nil]);first|done|rfl|(simp only [List.length_drop,List.length_take];rfl)) ?_;(with_reducible refine (stim_reader_line.calls g s0_0 s0_1 s0_2 s0_3 t107 t108 t109 t110 t111 t112 w0 _ ?side3 ?side1 ?side2 A2.out).mono ?_);(case side1 => repeat (first|(with_reducible first|exact HI0.out|apply IsS98.alloc|apply IsS98.drewN|apply IsS98.drew|apply IsS98.set_0|apply IsS98.set_1|apply IsS98.set_2|apply IsS98.set_3|refine IsS98.far ?_ NB0_105.out _|refine IsS98.far ?_ NB0_106.out _)|exact HI0.out));(case side2 => repeat (first|(with_reducible first|exact HB.out|apply eA_|apply eN_|apply eD_|refine eS_ ?_ (IsS98.ge HI0.out)|refine eS_ ?_ GE105.out|refine eS_ ?_ GE106.out)|exact HB.out));(case side3 => exact HG.out);rintro e w10 ⟨rfl,hi,hb,hk⟩;refine ⟨_,rfl,?_⟩;have n0_:=A0_.mk (KeepBut.blk hk (g':=gb105) (o:=.cells #[.slice none 0 0,.slice none 0 0,.int .i64 0] 26 (0,0)) (by (with_reducible repeat (first|refine bN_ ?_ _|refine bD_ ?_|refine bA_ ?_ _));refine blk_far ?_ NB105_106.out _;(with_reducible repeat (first|refine bN_ ?_ _|refine bD_ ?_|refine bA_ ?_ _));refine blk_far ?_ NB105_106.out _;(with_reducible repeat (first|refine bN_ ?_ _|refine bD_ ?_|refine bA_ ?_ _));refine blk_far ?_ NB105_106.out _;(with_reducible repeat (first|refine bN_ ?_ _|refine bD_ ?_|refine bA_ ?_ _));exact BK105.out) NB105_0.out (by simp));have n1_:=A0_.mk (KeepBut.blk hk (g':=gb106) (o:=.cells #[.slice none 0 0,.slice none 0 0,.int .i64 (-1)] 26 (0,0)) (by (with_reducible repeat (first|refine bN_ ?_ _|refine bD_ ?_|refine bA_ ?_ _));refine blk_put (cs:=#[.slice none 0 0,.slice none 0 0,.int .i64 0]) ?_ 2 _ rfl;(with_reducible repeat (first|refine bN_ ?_ _|refine bD_ ?_|refine bA_ ?_ _));refine blk_put (cs:=#[.slice none 0 0,.slice none 0 0,.int .i64 0]) ?_ 1 _ rfl;(with_reducible repeat (first|refine bN_ ?_ _|refine bD_ ?_|refine bA_ ?_ _));refine blk_put (cs:=#[.slice none 0 0,.slice none 0 0,.int .i64 0]) ?_ 0 _ rfl;(with_reducible repeat (first|refine bN_ ?_ _|refine bD_ ?_|refine bA_ ?_ _));exact BK106.out) NB106_0.out (by simp));have n2_:=A0_.mk (KeepBut.trans (by repeat (first|(with_reducible first|exact HK.out|apply KeepBut.set_|apply keep_drewN|apply keep_drew|apply keep_alloc|refine keep_far ?_ GW105.out _|refine keep_far ?_ GW106.out _)|exact HK.out)) hk (.inl rfl));have n3_:=A0_.mk (hb);have n4_:=A0_.mk (hi);clear BK105;clear BK106;clear HK;clear HB;clear HI0;have BK105:=n0_;have BK106:=n1_;have HK:=n2_;have HB:=n3_;have HI0:=n4_;clear n0_ n1_ n2_ n3_ n4_;(try clear hb);(try clear hb2);(try clear hk);(try clear hi);obtain ⟨HGz11,hgz11⟩:=HI0.out;have hcz11_0:=cellS98_0 HGz11;have hcz11_1:=cellS98_1 HGz11;have hcz11_2:=cellS98_2 HGz11;have hcz11_3:=cellS98_3 HGz11;have hfz11_0:=bF_ HGz11 0;have hfz11_1:=bF_ HGz11 1;have hfz11_2:=bF_ HGz11 2;have hfz11_3:=bF_ HGz11 3;clear HGz11 hgz11)|((with_reducible refine gate_callee (f:=95) rfl ?_);refine goesL_ (some 29) rfl rfl Tryd.func95 (by kernel_rfl) rfl #[.string t107,.int .i64 t111] rfl (by (try simp only [List.map_toArray,List.map_cons,List.map_nil]);first|done|rfl|(simp only [List.length_drop,List.length_take];rfl)) ?_;(with_reducible refine (stim_row.calls t107 t111 t113 t114 _ ?side1 A3.out).mono ?_);(case side1 => exact GV_below HG.out (by repeat (first|(with_reducible first|exact HB.out|apply eA_|apply eN_|apply eD_|refine eS_ ?_ (IsS98.ge HI0.out)|refine eS_ ?_ GE105.out|refine eS_ ?_ GE106.out)|exact HB.out)));rintro e w12 ⟨v115,rfl,ho0,hb⟩;refine ⟨_,rfl,?_⟩;have n0_:=A0_.mk (Kd.R_lower ho0 (keep_size (w:=w) (g:=g) (row:=none) (by repeat (first|(with_reducible first|exact HK.out|apply KeepBut.set_|apply keep_drewN|apply keep_drew|apply keep_alloc|refine keep_far ?_ GW105.out _|refine keep_far ?_ GW106.out _)|exact HK.out))));have n1_:=A0_.mk (IsS98.below (by repeat (first|(with_reducible first|exact HI0.out|apply IsS98.alloc|apply IsS98.drewN|apply IsS98.drew|apply IsS98.set_0|apply IsS98.set_1|apply IsS98.set_2|apply IsS98.set_3|refine IsS98.far ?_ NB0_105.out _|refine IsS98.far ?_ NB0_106.out _)|exact HI0.out)) hb);have n2_:=A0_.mk (blk_below (g:=gb105) (o:=.cells #[.slice none 0 0,.slice none 0 0,.int .i64 0] 26 (0,0)) (by (with_reducible repeat (first|refine bN_ ?_ _|refine bD_ ?_|refine bA_ ?_ _));exact BK105.out) hb);have n3_:=A0_.mk (blk_below (g:=gb106) (o:=.cells #[.slice none 0 0,.slice none 0 0,.int .i64 (-1)] 26 (0,0)) (by (with_reducible repeat (first|refine bN_ ?_ _|refine bD_ ?_|refine bA_ ?_ _));exact BK106.out) hb);have n4_:=A0_.mk (KeepBut.trans (by repeat (first|(with_reducible first|exact HK.out|apply KeepBut.set_|apply keep_drewN|apply keep_drew|apply keep_alloc|refine keep_far ?_ GW105.out _|refine keep_far ?_ GW106.out _)|exact HK.out)) (KeepBut.of_below hb g none) (.inl rfl));have n5_:=A0_.mk (below_step (by repeat (first|(with_reducible first|exact HB.out|apply eA_|apply eN_|apply eD_|refine eS_ ?_ (IsS98.ge HI0.out)|refine eS_ ?_ GE105.out|refine eS_ ?_ GE106.out)|exact HB.out)) hb);clear HI0;clear BK105;clear BK106;clear HK;clear HB;have HO116:=n0_;have HI0:=n1_;have BK105:=n2_;have BK106:=n3_;have HK:=n4_;have HB:=n5_;clear n0_ n1_ n2_ n3_ n4_ n5_;(try clear hb);(try clear hb2);(try clear hk);(try clear hi);(try clear ho0)))
 (try simp only [Act.put,List.setIfInBounds_toArray,List.set_cons_zero,List.set_cons_succ])
 go_cut [37] (fun v37 wc => ∃ (kq : Nat) (x37_3 : Bool),v37 = .bool x37_3 ∧ A0_ (stim_reader_trace.j0 kq t107 t113 x37_3 t109 t110 t111 t112 (-1) = some (r1,r2,r3,r4,r5,r6,r7,r8)) ∧ A0_ (kq ≤ k) ∧ A0_ (Kd.R Kd.bool 4 wc w.heap.size (fun _ => True) v115 t113) ∧ A0_ (wc.heap[gb105]? = some (.cells #[(.slice none 0 0),(.slice none 0 0),.int .i64 0] 26 (0,0))) ∧ A0_ (wc.heap[gb106]? = some (.cells #[(.slice none 0 0),(.slice none 0 0),.int .i64 (-1)] 26 (0,0))) ∧ A0_ (IsS98 w0 wc g t109 t110 t111 t112) ∧ A0_ (KeepBut w wc g none) ∧ A0_ (Below w0.heap.size w0 wc))
 case first =>
  have H:=HC4.out
  clear HC4
  by_cases c13 : t108 = true
  ·subst c13
   have H1 : (stim_reader_trace.j0 k t107 t113 (!t114) t109 t110 t111 t112 (-1)) = some (r1,r2,r3,r4,r5,r6,r7,r8):=by rw [if_pos rfl] at H;exact H
   clear H
   have H:=H1
   clear H1
   have H':=A0_.mk H
   clear H
   go_wp2
   go_meet
   case rel => exact ⟨_,(!t114),(by first|rfl|(simp;done)|(simp [*];done)),H',⟨by first|omega|exact Nat.le_refl _⟩,⟨by (with_reducible repeat (first|apply Kd.R_alloc|apply Kd.R_drewN|apply Kd.R_drew));exact HO116.out⟩,⟨by (with_reducible repeat (first|refine bN_ ?_ _|refine bD_ ?_|refine bA_ ?_ _));exact BK105.out⟩,⟨by (with_reducible repeat (first|refine bN_ ?_ _|refine bD_ ?_|refine bA_ ?_ _));exact BK106.out⟩,⟨by repeat (first|(with_reducible first|exact HI0.out|apply IsS98.alloc|apply IsS98.drewN|apply IsS98.drew|apply IsS98.set_0|apply IsS98.set_1|apply IsS98.set_2|apply IsS98.set_3|refine IsS98.far ?_ NB0_105.out _|refine IsS98.far ?_ NB0_106.out _)|exact HI0.out)⟩,⟨by repeat (first|(with_reducible first|exact HK.out|apply KeepBut.set_|apply keep_drewN|apply keep_drew|apply keep_alloc|refine keep_far ?_ GW105.out _|refine keep_far ?_ GW106.out _)|exact HK.out)⟩,⟨by repeat (first|(with_reducible first|exact HB.out|apply eA_|apply eN_|apply eD_|refine eS_ ?_ (IsS98.ge HI0.out)|refine eS_ ?_ GE105.out|refine eS_ ?_ GE106.out)|exact HB.out)⟩⟩
  ·replace c13:=Bool.eq_false_iff.mpr c13
   subst c13
   have H1 : (stim_reader_trace.j0 k t107 t113 true t109 t110 t111 t112 (-1)) = some (r1,r2,r3,r4,r5,r6,r7,r8):=by rw [if_neg (show ¬ (false = true) by decide)] at H;exact H
   clear H
   have H:=H1
   clear H1
   have H':=A0_.mk H
   clear H
   go_wp2
   go_meet
   case rel => exact ⟨_,(true),(by first|rfl|(simp;done)|(simp [*];done)),H',⟨by first|omega|exact Nat.le_refl _⟩,⟨by (with_reducible repeat (first|apply Kd.R_alloc|apply Kd.R_drewN|apply Kd.R_drew));exact HO116.out⟩,⟨by (with_reducible repeat (first|refine bN_ ?_ _|refine bD_ ?_|refine bA_ ?_ _));exact BK105.out⟩,⟨by (with_reducible repeat (first|refine bN_ ?_ _|refine bD_ ?_|refine bA_ ?_ _));exact BK106.out⟩,⟨by repeat (first|(with_reducible first|exact HI0.out|apply IsS98.alloc|apply IsS98.drewN|apply IsS98.drew|apply IsS98.set_0|apply IsS98.set_1|apply IsS98.set_2|apply IsS98.set_3|refine IsS98.far ?_ NB0_105.out _|refine IsS98.far ?_ NB0_106.out _)|exact HI0.out)⟩,⟨by repeat (first|(with_reducible first|exact HK.out|apply KeepBut.set_|apply keep_drewN|apply keep_drew|apply keep_alloc|refine keep_far ?_ GW105.out _|refine keep_far ?_ GW106.out _)|exact HK.out)⟩,⟨by repeat (first|(with_reducible first|exact HB.out|apply eA_|apply eN_|apply eD_|refine eS_ ?_ (IsS98.ge HI0.out)|refine eS_ ?_ GE105.out|refine eS_ ?_ GE106.out)|exact HB.out)⟩⟩
 case rest =>
  clear HC4
  try clear c1
  try clear p2
  try clear c7
  try clear c8
  try clear c9
  try clear c13
  try clear hcz11_0
  try clear hcz11_1
  try clear hcz11_2
  try clear hcz11_3
  try clear hcz9_0
  try clear hcz9_1
  try clear hcz9_2
  try clear hfz11_0
  try clear hfz11_1
  try clear hfz11_2
  try clear hfz11_3
  try clear hfz9_0
  try clear hfz9_1
  try clear hfz9_2
  obtain ⟨kq,x37_3,rfl,HA,HJ3,HO_7,BK105,BK106,HI0,HK,HB⟩:=hcut
  cases kq with
  |zero => exact absurd HA.out (by simp [stim_reader_trace.j0])
  |succ kj3 =>
   have H:=HA.out
   clear HA
   simp only [stim_reader_trace.j0] at H
   by_cases c14 : x37_3 = true
   ·subst c14
    have H1 : (some (([] : List Bool),([] : List (List Bool)),(-1),false,t109,t110,t111,t112)) = some (r1,r2,r3,r4,r5,r6,r7,r8):=by rw [if_pos rfl] at H;exact H
    clear H
    have H:=H1
    clear H1
    simp only [Option.some.injEq,Prod.mk.injEq] at H
    obtain ⟨rfl,rfl,rfl,rfl,rfl,rfl,rfl,rfl⟩:=H
    have hnb15:=NB106_105.out
    have hnc15:=NB105_106.out
    have hnb16:=NB106_0.out
    have hnc16:=NB0_106.out
    have hcz17_0 : wc.cell? ⟨gb106,0,none⟩ = some (.slice none 0 0):=(bC_ BK106.out 0).trans rfl
    have hcz17_1 : wc.cell? ⟨gb106,1,none⟩ = some (.slice none 0 0):=(bC_ BK106.out 1).trans rfl
    have hcz17_2 : wc.cell? ⟨gb106,2,none⟩ = some (.int .i64 (-1)):=(bC_ BK106.out 2).trans rfl
    have hfz17_0:=bF_ BK106.out 0
    have hfz17_1:=bF_ BK106.out 1
    have hfz17_2:=bF_ BK106.out 2
    have hnb18:=NB105_0.out
    have hnc18:=NB0_105.out
    have hcz19_0 : wc.cell? ⟨gb105,0,none⟩ = some (.slice none 0 0):=(bC_ BK105.out 0).trans rfl
    have hcz19_1 : wc.cell? ⟨gb105,1,none⟩ = some (.slice none 0 0):=(bC_ BK105.out 1).trans rfl
    have hcz19_2 : wc.cell? ⟨gb105,2,none⟩ = some (.int .i64 0):=(bC_ BK105.out 2).trans rfl
    have hfz19_0:=bF_ BK105.out 0
    have hfz19_1:=bF_ BK105.out 1
    have hfz19_2:=bF_ BK105.out 2
    go_wp2
    refine bodyPost_ret (results_ct rfl _ _ gb105 26 #[.slice none 0 0,.slice none 0 0,.int .i64 (-1)] (0,0) _ rfl (by (with_reducible repeat (first|refine bN_ ?_ _|refine bD_ ?_|refine bA_ ?_ _));refine blk_put (cs:=#[.slice none 0 0,.slice none 0 0,.int .i64 0]) ?_ 2 _ rfl;(with_reducible repeat (first|refine bN_ ?_ _|refine bD_ ?_|refine bA_ ?_ _));refine blk_put (cs:=#[.slice none 0 0,.slice none 0 0,.int .i64 0]) ?_ 1 _ rfl;(with_reducible repeat (first|refine bN_ ?_ _|refine bD_ ?_|refine bA_ ?_ _));refine blk_put (cs:=#[.slice none 0 0,.slice none 0 0,.int .i64 0]) ?_ 0 _ rfl;(with_reducible repeat (first|refine bN_ ?_ _|refine bD_ ?_|refine bA_ ?_ _));exact BK105.out) Tryd.underlying26 rfl (by kernel_rfl)) rfl ?_
    exact ⟨_,_,by first|rfl|(simp [errW_none,errW_some] <;> rfl)|(simp [*,errW_none,errW_some] <;> rfl),by first|exact Kd.R_nil _ _ _ _ _|exact Kd.N_nil _ _ _ _ _|exact Kd.V_nil _ _ _ _ _|exact Kd.Q_nil _ _ _ _ _|exact Kd.S_nil _ _ _ _ _,by first|exact Kd.S_nil _ _ _ _ _|exact Kd.N_nil _ _ _ _ _|exact Kd.V_nil _ _ _ _ _|exact Kd.Q_nil _ _ _ _ _|exact Kd.R_nil _ _ _ _ _,by repeat (first|(with_reducible first|exact HI0.out|apply IsS98.alloc|apply IsS98.drewN|apply IsS98.drew|apply IsS98.set_0|apply IsS98.set_1|apply IsS98.set_2|apply IsS98.set_3|refine IsS98.far ?_ NB0_105.out _|refine IsS98.far ?_ NB0_106.out _)|exact HI0.out),by repeat (first|(with_reducible first|exact HB.out|apply eA_|apply eN_|apply eD_|refine eS_ ?_ (IsS98.ge HI0.out)|refine eS_ ?_ GE105.out|refine eS_ ?_ GE106.out)|exact HB.out),by repeat (first|(with_reducible first|exact HK.out|apply KeepBut.set_|apply keep_drewN|apply keep_drew|apply keep_alloc|refine keep_far ?_ GW105.out _|refine keep_far ?_ GW106.out _)|exact HK.out)⟩
   ·replace c14:=Bool.eq_false_iff.mpr c14
    subst c14
    have H1 : ((stim_reader_skip.f t109 t110 t111 t112 t107).bind fun bt117 => (stim_reader_trace.l0 kj3 bt117.1 bt117.2.1 bt117.2.2.1 bt117.2.2.2 t113 ([] : List (List Bool)) (-1))) = some (r1,r2,r3,r4,r5,r6,r7,r8):=by rw [if_neg (show ¬ (false = true) by decide)] at H;exact H
    clear H
    have H:=H1
    clear H1
    replace H:=Option.bind_eq_some_iff.mp H
    obtain ⟨⟨t117,t118,t119,t120⟩,A200,H⟩:=H
    replace H : (stim_reader_trace.l0 kj3 t117 t118 t119 t120 t113 ([] : List (List Bool)) (-1)) = some (r1,r2,r3,r4,r5,r6,r7,r8):=H
    have A20:=A0_.mk A200
    clear A200
    have H':=A0_.mk H
    clear H
    obtain ⟨Ao21,co21,eo21⟩:=Kd.R_slice HO_7.out
    subst eo21
    have hnb22:=NB106_105.out
    have hnc22:=NB105_106.out
    have hnb23:=NB106_0.out
    have hnc23:=NB0_106.out
    have hcz24_0 : wc.cell? ⟨gb106,0,none⟩ = some (.slice none 0 0):=(bC_ BK106.out 0).trans rfl
    have hcz24_1 : wc.cell? ⟨gb106,1,none⟩ = some (.slice none 0 0):=(bC_ BK106.out 1).trans rfl
    have hcz24_2 : wc.cell? ⟨gb106,2,none⟩ = some (.int .i64 (-1)):=(bC_ BK106.out 2).trans rfl
    have hfz24_0:=bF_ BK106.out 0
    have hfz24_1:=bF_ BK106.out 1
    have hfz24_2:=bF_ BK106.out 2
    go_wp2_with (first|((with_reducible refine gate_callee (f:=74) rfl ?_);refine goesL_ (some 43) rfl rfl Tryd.func74 (by kernel_rfl) rfl #[.pointer (some ⟨g,0,none⟩),.string t107] rfl (by (try simp only [List.map_toArray,List.map_cons,List.map_nil]);first|done|rfl|(simp only [List.length_drop,List.length_take];rfl)) ?_;(with_reducible refine (stim_reader_skip.calls g t109 t110 t111 t112 t107 t117 t118 t119 t120 w0 _ ?side1 ?side2 A20.out).mono ?_);(case side1 => repeat (first|(with_reducible first|exact HI0.out|apply IsS98.alloc|apply IsS98.drewN|apply IsS98.drew|apply IsS98.set_0|apply IsS98.set_1|apply IsS98.set_2|apply IsS98.set_3|refine IsS98.far ?_ NB0_105.out _|refine IsS98.far ?_ NB0_106.out _)|exact HI0.out));(case side2 => repeat (first|(with_reducible first|exact HB.out|apply eA_|apply eN_|apply eD_|refine eS_ ?_ (IsS98.ge HI0.out)|refine eS_ ?_ GE105.out|refine eS_ ?_ GE106.out)|exact HB.out));rintro e w25 ⟨rfl,hi,hb,hk⟩;refine ⟨_,rfl,?_⟩;have n0_:=A0_.mk (Kd.R_mono (Kd.R_keep (IsS98.apart (show IsS98 w0 _ g t109 t110 t111 t112 from by repeat (first|(with_reducible first|exact HI0.out|apply IsS98.alloc|apply IsS98.drewN|apply IsS98.drew|apply IsS98.set_0|apply IsS98.set_1|apply IsS98.set_2|apply IsS98.set_3|refine IsS98.far ?_ NB0_105.out _|refine IsS98.far ?_ NB0_106.out _)|exact HI0.out)) (by (with_reducible repeat (first|apply Kd.R_alloc|apply Kd.R_drewN|apply Kd.R_drew));exact (Kd.R_mono (Kd.R_far (p:=⟨gb106,0,none⟩) (Kd.R_types HO_7.out BK106.out (by decide)) (fun _ hk => hk.2) (.slice Ao21 t113.length co21)) (fun _ h_ => h_.1))) (by decide)) hk (fun _ h => h.2)) (fun _ h => h.1));have n1_:=A0_.mk (KeepBut.blk hk (g':=gb105) (o:=.cells #[.slice none 0 0,.slice none 0 0,.int .i64 0] 26 (0,0)) (by (with_reducible repeat (first|refine bN_ ?_ _|refine bD_ ?_|refine bA_ ?_ _));refine blk_far ?_ NB105_106.out _;(with_reducible repeat (first|refine bN_ ?_ _|refine bD_ ?_|refine bA_ ?_ _));exact BK105.out) NB105_0.out (by simp));have n2_:=A0_.mk (KeepBut.blk hk (g':=gb106) (o:=.cells #[.slice Ao21 t113.length co21,.slice none 0 0,.int .i64 (-1)] 26 (0,0)) (by (with_reducible repeat (first|refine bN_ ?_ _|refine bD_ ?_|refine bA_ ?_ _));refine blk_put (cs:=#[.slice none 0 0,.slice none 0 0,.int .i64 (-1)]) ?_ 0 _ rfl;(with_reducible repeat (first|refine bN_ ?_ _|refine bD_ ?_|refine bA_ ?_ _));exact BK106.out) NB106_0.out (by simp));have n3_:=A0_.mk (KeepBut.trans (by repeat (first|(with_reducible first|exact HK.out|apply KeepBut.set_|apply keep_drewN|apply keep_drew|apply keep_alloc|refine keep_far ?_ GW105.out _|refine keep_far ?_ GW106.out _)|exact HK.out)) hk (.inl rfl));have n4_:=A0_.mk (hb);have n5_:=A0_.mk (hi);clear HO_7;clear BK105;clear BK106;clear HK;clear HB;clear HI0;have HO_7:=n0_;have BK105:=n1_;have BK106:=n2_;have HK:=n3_;have HB:=n4_;have HI0:=n5_;clear n0_ n1_ n2_ n3_ n4_ n5_;(try clear hb);(try clear hb2);(try clear hk);(try clear hi)))
    (try simp only [Act.put,List.setIfInBounds_toArray,List.set_cons_zero,List.set_cons_succ])
    go_loopg [] kj3 (fun kq w' => ∃ (x1000_2 : ByteArray) (x1001_2 : Int) (x1002_2 : Int) (x1003_2 : Int) (x106002_2 : Int) (x107001_2 : List (List Bool)) (x107002_2 : Int) (u107001 : Value),A0_ (stim_reader_trace.l0 kq x1000_2 x1001_2 x1002_2 x1003_2 t113 x107001_2 x107002_2 = some (r1,r2,r3,r4,r5,r6,r7,r8)) ∧ A0_ (kq ≤ kj3) ∧ A0_ (Kd.R Kd.bool 4 w' w.heap.size (fun _ => True) (.slice Ao21 t113.length co21) t113) ∧ A0_ (Kd.S (Kd.slice 4 Kd.bool) 23 w' w.heap.size (fun k_ => some k_ ≠ ((.slice Ao21 t113.length co21) : Value).ownBlock) u107001 x107001_2) ∧ A0_ (w'.heap[gb105]? = some (.cells #[(.slice none 0 0),(.slice none 0 0),.int .i64 x106002_2] 26 (0,0))) ∧ A0_ (w'.heap[gb106]? = some (.cells #[(.slice Ao21 t113.length co21),u107001,.int .i64 x107002_2] 26 (0,0))) ∧ A0_ (IsS98 w0 w' g x1000_2 x1001_2 x1002_2 x1003_2) ∧ A0_ (KeepBut w w' g none) ∧ A0_ (Below w0.heap.size w0 w'))
    case atStart => exact ⟨(t117),(t118),(t119),(t120),(0),(([] : List (List Bool))),((-1)),(.slice none 0 0),H',⟨Nat.le_refl _⟩,⟨by (with_reducible repeat (first|apply Kd.R_alloc|apply Kd.R_drewN|apply Kd.R_drew));exact HO_7.out⟩,⟨by first|exact Kd.S_nil _ _ _ _ _|exact Kd.N_nil _ _ _ _ _|exact Kd.V_nil _ _ _ _ _|exact Kd.Q_nil _ _ _ _ _|exact Kd.R_nil _ _ _ _ _⟩,⟨by (with_reducible repeat (first|refine bN_ ?_ _|refine bD_ ?_|refine bA_ ?_ _));exact BK105.out⟩,⟨by (with_reducible repeat (first|refine bN_ ?_ _|refine bD_ ?_|refine bA_ ?_ _));exact BK106.out⟩,⟨by repeat (first|(with_reducible first|exact HI0.out|apply IsS98.alloc|apply IsS98.drewN|apply IsS98.drew|apply IsS98.set_0|apply IsS98.set_1|apply IsS98.set_2|apply IsS98.set_3|refine IsS98.far ?_ NB0_105.out _|refine IsS98.far ?_ NB0_106.out _)|exact HI0.out)⟩,⟨by repeat (first|(with_reducible first|exact HK.out|apply KeepBut.set_|apply keep_drewN|apply keep_drew|apply keep_alloc|refine keep_far ?_ GW105.out _|refine keep_far ?_ GW106.out _)|exact HK.out)⟩,⟨by repeat (first|(with_reducible first|exact HB.out|apply eA_|apply eN_|apply eD_|refine eS_ ?_ (IsS98.ge HI0.out)|refine eS_ ?_ GE105.out|refine eS_ ?_ GE106.out)|exact HB.out)⟩⟩
    case round =>
     clear H'
     try clear c1
     try clear c2
     try clear p2
     try clear c7
     try clear c8
     try clear c9
     try clear c13
     try clear c14
     try clear c15
     try clear c16
     try clear c18
     try clear c22
     try clear c23
     try clear hcz11_0
     try clear hcz11_1
     try clear hcz11_2
     try clear hcz11_3
     try clear hcz17_0
     try clear hcz17_1
     try clear hcz17_2
     try clear hcz19_0
     try clear hcz19_1
     try clear hcz19_2
     try clear hcz24_0
     try clear hcz24_1
     try clear hcz24_2
     try clear hcz9_0
     try clear hcz9_1
     try clear hcz9_2
     try clear hfz11_0
     try clear hfz11_1
     try clear hfz11_2
     try clear hfz11_3
     try clear hfz17_0
     try clear hfz17_1
     try clear hfz17_2
     try clear hfz19_0
     try clear hfz19_1
     try clear hfz19_2
     try clear hfz24_0
     try clear hfz24_1
     try clear hfz24_2
     try clear hfz9_0
     try clear hfz9_1
     try clear hfz9_2
     try clear p2
     obtain ⟨x1000_2,x1001_2,x1002_2,x1003_2,x106002_2,x107001_2,x107002_2,u107001,HA,HK2,HO_107000,HO_107001,BK105,BK106,HI0,HK,HB⟩:=hrel
     cases gk with
     |zero => exact absurd HA.out (by simp [stim_reader_trace.l0])
     |succ k2 =>
      have H:=HA.out
      clear HA
      simp only [stim_reader_trace.l0] at H
      replace H:=Option.bind_eq_some_iff.mp H
      obtain ⟨⟨t121,t122,t123,t124,t125,t126⟩,A260,H⟩:=H
      replace H : (if t122 = true then (if (x107001_2.length : Int) > 0 then (if t121.toList = ([46] : List UInt8) then (some (t113,x107001_2,x107002_2,true,t123,t124,t125,t126)) else ((strings_CutPrefix.f t121 (⟨#[99,32,108,111,111,112,32]⟩ : ByteArray)).bind fun bt127 => ((stim_number.f bt127.1).bind fun bt129 => (if bt127.2 = true then (if bt129.2 = true then (if bt129.1 < (x107001_2.length : Int) then ((stim_reader_skip.f t123 t124 t125 t126 t121).bind fun bt131 => (some (t113,x107001_2,bt129.1,true,bt131.1,bt131.2.1,bt131.2.2.1,bt131.2.2.2))) else (stim_reader_trace.j2 k2 t121 t123 t124 t125 t126 t113 x107001_2 x107002_2)) else (stim_reader_trace.j2 k2 t121 t123 t124 t125 t126 t113 x107001_2 x107002_2)) else (stim_reader_trace.j2 k2 t121 t123 t124 t125 t126 t113 x107001_2 x107002_2))))) else (stim_reader_trace.j2 k2 t121 t123 t124 t125 t126 t113 x107001_2 x107002_2)) else (some (t113,x107001_2,x107002_2,false,t123,t124,t125,t126))) = some (r1,r2,r3,r4,r5,r6,r7,r8):=H
      have A26:=A0_.mk A260
      clear A260
      by_cases c27 : t122 = true
      ·subst c27
       have H1 : (if (x107001_2.length : Int) > 0 then (if t121.toList = ([46] : List UInt8) then (some (t113,x107001_2,x107002_2,true,t123,t124,t125,t126)) else ((strings_CutPrefix.f t121 (⟨#[99,32,108,111,111,112,32]⟩ : ByteArray)).bind fun bt127 => ((stim_number.f bt127.1).bind fun bt129 => (if bt127.2 = true then (if bt129.2 = true then (if bt129.1 < (x107001_2.length : Int) then ((stim_reader_skip.f t123 t124 t125 t126 t121).bind fun bt131 => (some (t113,x107001_2,bt129.1,true,bt131.1,bt131.2.1,bt131.2.2.1,bt131.2.2.2))) else (stim_reader_trace.j2 k2 t121 t123 t124 t125 t126 t113 x107001_2 x107002_2)) else (stim_reader_trace.j2 k2 t121 t123 t124 t125 t126 t113 x107001_2 x107002_2)) else (stim_reader_trace.j2 k2 t121 t123 t124 t125 t126 t113 x107001_2 x107002_2))))) else (stim_reader_trace.j2 k2 t121 t123 t124 t125 t126 t113 x107001_2 x107002_2)) = some (r1,r2,r3,r4,r5,r6,r7,r8):=by rw [if_pos rfl] at H;exact H
       clear H
       have H:=H1
       clear H1
       have HC28:=A0_.mk H
       clear H
       go_upto_if 55 with (first|((with_reducible refine gate_callee (f:=73) rfl ?_);refine goesL_ (some 46) rfl rfl Tryd.func73 (by kernel_rfl) rfl #[.pointer (some ⟨g,0,none⟩)] rfl (by (try simp only [List.map_toArray,List.map_cons,List.map_nil]);first|done|rfl|(simp only [List.length_drop,List.length_take];rfl)) ?_;(with_reducible refine (stim_reader_line.calls g x1000_2 x1001_2 x1002_2 x1003_2 t121 true t123 t124 t125 t126 w0 _ ?side3 ?side1 ?side2 A26.out).mono ?_);(case side1 => repeat (first|(with_reducible first|exact HI0.out|apply IsS98.alloc|apply IsS98.drewN|apply IsS98.drew|apply IsS98.set_0|apply IsS98.set_1|apply IsS98.set_2|apply IsS98.set_3|refine IsS98.far ?_ NB0_105.out _|refine IsS98.far ?_ NB0_106.out _)|exact HI0.out));(case side2 => repeat (first|(with_reducible first|exact HB.out|apply eA_|apply eN_|apply eD_|refine eS_ ?_ (IsS98.ge HI0.out)|refine eS_ ?_ GE105.out|refine eS_ ?_ GE106.out)|exact HB.out));(case side3 => exact HG.out);rintro e w29 ⟨rfl,hi,hb,hk⟩;refine ⟨_,rfl,?_⟩;have n0_:=A0_.mk (Kd.R_mono (Kd.R_keep (IsS98.apart (show IsS98 w0 _ g x1000_2 x1001_2 x1002_2 x1003_2 from by repeat (first|(with_reducible first|exact HI0.out|apply IsS98.alloc|apply IsS98.drewN|apply IsS98.drew|apply IsS98.set_0|apply IsS98.set_1|apply IsS98.set_2|apply IsS98.set_3|refine IsS98.far ?_ NB0_105.out _|refine IsS98.far ?_ NB0_106.out _)|exact HI0.out)) (by (with_reducible repeat (first|apply Kd.R_alloc|apply Kd.R_drewN|apply Kd.R_drew));exact HO_107000.out) (by decide)) hk (fun _ h => h.2)) (fun _ h => h.1));have n1_:=A0_.mk (Kd.S_mono (Kd.S_keep (IsS98.apartS (show IsS98 w0 _ g x1000_2 x1001_2 x1002_2 x1003_2 from by repeat (first|(with_reducible first|exact HI0.out|apply IsS98.alloc|apply IsS98.drewN|apply IsS98.drew|apply IsS98.set_0|apply IsS98.set_1|apply IsS98.set_2|apply IsS98.set_3|refine IsS98.far ?_ NB0_105.out _|refine IsS98.far ?_ NB0_106.out _)|exact HI0.out)) (by (with_reducible repeat (first|apply Kd.S_alloc|apply Kd.S_drewN|apply Kd.S_drew));exact HO_107001.out) (by decide)) hk (fun _ h => h.2)) (fun _ h => h.1));have n2_:=A0_.mk (KeepBut.blk hk (g':=gb105) (o:=.cells #[.slice none 0 0,.slice none 0 0,.int .i64 x106002_2] 26 (0,0)) (by (with_reducible repeat (first|refine bN_ ?_ _|refine bD_ ?_|refine bA_ ?_ _));exact BK105.out) NB105_0.out (by simp));have n3_:=A0_.mk (KeepBut.blk hk (g':=gb106) (o:=.cells #[.slice Ao21 t113.length co21,u107001,.int .i64 x107002_2] 26 (0,0)) (by (with_reducible repeat (first|refine bN_ ?_ _|refine bD_ ?_|refine bA_ ?_ _));exact BK106.out) NB106_0.out (by simp));have n4_:=A0_.mk (KeepBut.trans (by repeat (first|(with_reducible first|exact HK.out|apply KeepBut.set_|apply keep_drewN|apply keep_drew|apply keep_alloc|refine keep_far ?_ GW105.out _|refine keep_far ?_ GW106.out _)|exact HK.out)) hk (.inl rfl));have n5_:=A0_.mk (hb);have n6_:=A0_.mk (hi);clear HO_107000;clear HO_107001;clear BK105;clear BK106;clear HK;clear HB;clear HI0;have HO_107000:=n0_;have HO_107001:=n1_;have BK105:=n2_;have BK106:=n3_;have HK:=n4_;have HB:=n5_;have HI0:=n6_;clear n0_ n1_ n2_ n3_ n4_ n5_ n6_;(try clear hb);(try clear hb2);(try clear hk);(try clear hi);have hnb30:=NB106_105.out;have hnc30:=NB105_106.out;have hnb31:=NB106_0.out;have hnc31:=NB0_106.out;have hcz32_0 : w29.cell? ⟨gb106,0,none⟩ = some (.slice Ao21 t113.length co21):=(bC_ BK106.out 0).trans rfl;have hcz32_1 : w29.cell? ⟨gb106,1,none⟩ = some (u107001):=(bC_ BK106.out 1).trans rfl;have hcz32_2 : w29.cell? ⟨gb106,2,none⟩ = some (.int .i64 x107002_2):=(bC_ BK106.out 2).trans rfl;have hfz32_0:=bF_ BK106.out 0;have hfz32_1:=bF_ BK106.out 1;have hfz32_2:=bF_ BK106.out 2;obtain ⟨Ao33,co33,eo33⟩:=Kd.S_slice HO_107001.out;subst eo33))
       (try simp only [Act.put,List.setIfInBounds_toArray,List.set_cons_zero,List.set_cons_succ])
       go_cut [] (fun wc => ∃ (kq : Nat) (x1000_27 : ByteArray) (x1001_27 : Int) (x1002_27 : Int) (x1003_27 : Int) (x106002_27 : Int) (x107002_27 : Int),A0_ (stim_reader_trace.j2 kq t121 x1000_27 x1001_27 x1002_27 x1003_27 t113 x107001_2 x107002_27 = some (r1,r2,r3,r4,r5,r6,r7,r8)) ∧ A0_ (kq ≤ k2) ∧ A0_ (Kd.R Kd.bool 4 wc w.heap.size (fun _ => True) (.slice Ao21 t113.length co21) t113) ∧ A0_ (Kd.S (Kd.slice 4 Kd.bool) 23 wc w.heap.size (fun k_ => some k_ ≠ ((.slice Ao21 t113.length co21) : Value).ownBlock) (.slice Ao33 x107001_2.length co33) x107001_2) ∧ A0_ (wc.heap[gb105]? = some (.cells #[(.slice none 0 0),(.slice none 0 0),.int .i64 x106002_27] 26 (0,0))) ∧ A0_ (wc.heap[gb106]? = some (.cells #[(.slice Ao21 t113.length co21),(.slice Ao33 x107001_2.length co33),.int .i64 x107002_27] 26 (0,0))) ∧ A0_ (IsS98 w0 wc g x1000_27 x1001_27 x1002_27 x1003_27) ∧ A0_ (KeepBut w wc g none) ∧ A0_ (Below w0.heap.size w0 wc))
       case first =>
        have H:=HC28.out
        clear HC28
        by_cases c34 : (x107001_2.length : Int) > 0
        ·rw [if_pos c34] at H
         have c34b0 : decide (0 < (x107001_2.length : Int)) = true:=decide_eq_true c34
         have c34b1 : decide (0 < x107001_2.length) = true:=decide_eq_true (by omega)
         have c34b2 : 0 < x107001_2.length:=by omega
         clear c34
         (first|rw [c34b0]|(simp only [i64_w,i32_w];rw [c34b0])|skip)
         by_cases c35 : t121.toList = ([46] : List UInt8)
         ·rw [if_pos c35] at H
          have c35b0 : (t121.toList == ([46] : List UInt8)) = true:=beq_iff_eq.mpr c35
          have c35b1 : (t121.toList != ([46] : List UInt8)) = false:=bne_eq_false_iff_eq.mpr c35
          clear c35
          simp only [Option.some.injEq,Prod.mk.injEq] at H
          obtain ⟨rfl,rfl,rfl,rfl,rfl,rfl,rfl,rfl⟩:=H
          have hnb36:=NB106_105.out
          have hnc36:=NB105_106.out
          have hnb37:=NB106_0.out
          have hnc37:=NB0_106.out
          have hcz38_0 : w29.cell? ⟨gb106,0,none⟩ = some (.slice Ao21 t113.length co21):=(bC_ BK106.out 0).trans rfl
          have hcz38_1 : w29.cell? ⟨gb106,1,none⟩ = some (.slice Ao33 x107001_2.length co33):=(bC_ BK106.out 1).trans rfl
          have hcz38_2 : w29.cell? ⟨gb106,2,none⟩ = some (.int .i64 x107002_2):=(bC_ BK106.out 2).trans rfl
          have hfz38_0:=bF_ BK106.out 0
          have hfz38_1:=bF_ BK106.out 1
          have hfz38_2:=bF_ BK106.out 2
          have hnb39:=NB105_0.out
          have hnc39:=NB0_105.out
          have hcz40_0 : w29.cell? ⟨gb105,0,none⟩ = some (.slice none 0 0):=(bC_ BK105.out 0).trans rfl
          have hcz40_1 : w29.cell? ⟨gb105,1,none⟩ = some (.slice none 0 0):=(bC_ BK105.out 1).trans rfl
          have hcz40_2 : w29.cell? ⟨gb105,2,none⟩ = some (.int .i64 x106002_2):=(bC_ BK105.out 2).trans rfl
          have hfz40_0:=bF_ BK105.out 0
          have hfz40_1:=bF_ BK105.out 1
          have hfz40_2:=bF_ BK105.out 2
          go_wp2
          refine bodyPost_ret (results_ct rfl _ _ gb105 26 #[.slice Ao21 t113.length co21,.slice Ao33 x107001_2.length co33,.int .i64 x107002_2] (0,0) _ rfl (by (with_reducible repeat (first|refine bN_ ?_ _|refine bD_ ?_|refine bA_ ?_ _));refine blk_put (cs:=#[.slice Ao21 t113.length co21,.slice Ao33 x107001_2.length co33,.int .i64 x106002_2]) ?_ 2 _ rfl;(with_reducible repeat (first|refine bN_ ?_ _|refine bD_ ?_|refine bA_ ?_ _));refine blk_put (cs:=#[.slice Ao21 t113.length co21,.slice none 0 0,.int .i64 x106002_2]) ?_ 1 _ rfl;(with_reducible repeat (first|refine bN_ ?_ _|refine bD_ ?_|refine bA_ ?_ _));refine blk_put (cs:=#[.slice none 0 0,.slice none 0 0,.int .i64 x106002_2]) ?_ 0 _ rfl;(with_reducible repeat (first|refine bN_ ?_ _|refine bD_ ?_|refine bA_ ?_ _));exact BK105.out) Tryd.underlying26 rfl (by kernel_rfl)) rfl ?_
          exact ⟨_,_,by first|rfl|(simp [errW_none,errW_some] <;> rfl)|(simp [*,errW_none,errW_some] <;> rfl),by (with_reducible repeat (first|apply Kd.R_alloc|apply Kd.R_drewN|apply Kd.R_drew));exact Kd.R_mono (Kd.R_far (p:=⟨gb105,2,none⟩) (Kd.R_far (p:=⟨gb105,1,none⟩) (Kd.R_far (p:=⟨gb105,0,none⟩) (Kd.R_types HO_107000.out BK105.out (by decide)) (fun _ hk => hk.2) (.slice Ao21 t113.length co21)) (fun _ hk => hk.2) (.slice Ao33 x107001_2.length co33)) (fun _ hk => hk.2) (.int .i64 x107002_2)) (fun _ hk => trivial),by (with_reducible repeat (first|apply Kd.S_alloc|apply Kd.S_drewN|apply Kd.S_drew));exact Kd.S_mono (Kd.S_far (p:=⟨gb105,2,none⟩) (Kd.S_far (p:=⟨gb105,1,none⟩) (Kd.S_far (p:=⟨gb105,0,none⟩) (Kd.S_types HO_107001.out BK105.out (by decide)) (fun _ hk => hk.2) (.slice Ao21 t113.length co21)) (fun _ hk => hk.2) (.slice Ao33 x107001_2.length co33)) (fun _ hk => hk.2) (.int .i64 x107002_2)) (fun _ hk => hk.1),by repeat (first|(with_reducible first|exact HI0.out|apply IsS98.alloc|apply IsS98.drewN|apply IsS98.drew|apply IsS98.set_0|apply IsS98.set_1|apply IsS98.set_2|apply IsS98.set_3|refine IsS98.far ?_ NB0_105.out _|refine IsS98.far ?_ NB0_106.out _)|exact HI0.out),by repeat (first|(with_reducible first|exact HB.out|apply eA_|apply eN_|apply eD_|refine eS_ ?_ (IsS98.ge HI0.out)|refine eS_ ?_ GE105.out|refine eS_ ?_ GE106.out)|exact HB.out),by repeat (first|(with_reducible first|exact HK.out|apply KeepBut.set_|apply keep_drewN|apply keep_drew|apply keep_alloc|refine keep_far ?_ GW105.out _|refine keep_far ?_ GW106.out _)|exact HK.out)⟩
         ·rw [if_neg c35] at H
          have c35b0 : (t121.toList == ([46] : List UInt8)) = false:=beq_eq_false_iff_ne.mpr c35
          have c35b1 : (t121.toList != ([46] : List UInt8)) = true:=bne_iff_ne.mpr c35
          replace H:=Option.bind_eq_some_iff.mp H
          obtain ⟨⟨t127,t128⟩,A410,H⟩:=H
          replace H : ((stim_number.f t127).bind fun bt129 => (if t128 = true then (if bt129.2 = true then (if bt129.1 < (x107001_2.length : Int) then ((stim_reader_skip.f t123 t124 t125 t126 t121).bind fun bt131 => (some (t113,x107001_2,bt129.1,true,bt131.1,bt131.2.1,bt131.2.2.1,bt131.2.2.2))) else (stim_reader_trace.j2 k2 t121 t123 t124 t125 t126 t113 x107001_2 x107002_2)) else (stim_reader_trace.j2 k2 t121 t123 t124 t125 t126 t113 x107001_2 x107002_2)) else (stim_reader_trace.j2 k2 t121 t123 t124 t125 t126 t113 x107001_2 x107002_2))) = some (r1,r2,r3,r4,r5,r6,r7,r8):=H
          have A41:=A0_.mk A410
          clear A410
          replace H:=Option.bind_eq_some_iff.mp H
          obtain ⟨⟨t129,t130⟩,A420,H⟩:=H
          replace H : (if t128 = true then (if t130 = true then (if t129 < (x107001_2.length : Int) then ((stim_reader_skip.f t123 t124 t125 t126 t121).bind fun bt131 => (some (t113,x107001_2,t129,true,bt131.1,bt131.2.1,bt131.2.2.1,bt131.2.2.2))) else (stim_reader_trace.j2 k2 t121 t123 t124 t125 t126 t113 x107001_2 x107002_2)) else (stim_reader_trace.j2 k2 t121 t123 t124 t125 t126 t113 x107001_2 x107002_2)) else (stim_reader_trace.j2 k2 t121 t123 t124 t125 t126 t113 x107001_2 x107002_2)) = some (r1,r2,r3,r4,r5,r6,r7,r8):=H
          have A42:=A0_.mk A420
          clear A420
          by_cases c43 : t128 = true
          ·subst c43
           have H1 : (if t130 = true then (if t129 < (x107001_2.length : Int) then ((stim_reader_skip.f t123 t124 t125 t126 t121).bind fun bt131 => (some (t113,x107001_2,t129,true,bt131.1,bt131.2.1,bt131.2.2.1,bt131.2.2.2))) else (stim_reader_trace.j2 k2 t121 t123 t124 t125 t126 t113 x107001_2 x107002_2)) else (stim_reader_trace.j2 k2 t121 t123 t124 t125 t126 t113 x107001_2 x107002_2)) = some (r1,r2,r3,r4,r5,r6,r7,r8):=by rw [if_pos rfl] at H;exact H
           clear H
           have H:=H1
           clear H1
           by_cases c44 : t130 = true
           ·subst c44
            have H1 : (if t129 < (x107001_2.length : Int) then ((stim_reader_skip.f t123 t124 t125 t126 t121).bind fun bt131 => (some (t113,x107001_2,t129,true,bt131.1,bt131.2.1,bt131.2.2.1,bt131.2.2.2))) else (stim_reader_trace.j2 k2 t121 t123 t124 t125 t126 t113 x107001_2 x107002_2)) = some (r1,r2,r3,r4,r5,r6,r7,r8):=by rw [if_pos rfl] at H;exact H
            clear H
            have H:=H1
            clear H1
            by_cases c45 : t129 < (x107001_2.length : Int)
            ·rw [if_pos c45] at H
             have c45b0 : decide (t129 < (x107001_2.length : Int)) = true:=decide_eq_true c45
             clear c45
             replace H:=Option.bind_eq_some_iff.mp H
             obtain ⟨⟨t131,t132,t133,t134⟩,A460,H⟩:=H
             replace H : (some (t113,x107001_2,t129,true,t131,t132,t133,t134)) = some (r1,r2,r3,r4,r5,r6,r7,r8):=H
             have A46:=A0_.mk A460
             clear A460
             simp only [Option.some.injEq,Prod.mk.injEq] at H
             obtain ⟨rfl,rfl,rfl,rfl,rfl,rfl,rfl,rfl⟩:=H
             go_wp2_with (first|((with_reducible refine gate_callee (f:=96) rfl ?_);refine goesL_ (some 61) rfl rfl Tryd.func96 (by kernel_rfl) rfl #[.string t121,.string (⟨#[99,32,108,111,111,112,32]⟩ : ByteArray)] rfl (by (try simp only [List.map_toArray,List.map_cons,List.map_nil]);first|done|rfl|(simp only [List.length_drop,List.length_take];rfl)) ?_;(with_reducible refine (strings_CutPrefix.calls t121 (⟨#[99,32,108,111,111,112,32]⟩ : ByteArray) t127 true _ A41.out).mono ?_);rintro e w' ⟨rfl,⟨nd,rfl⟩⟩;refine ⟨_,rfl,?_⟩;(try (rw [drewN_self w29];generalize hq_ : World.drewN w29 _ = w29;have n0_ : A0_ (Kd.R Kd.bool 4 w29 w.heap.size (fun _ => True) (.slice Ao21 t113.length co21) t113):=⟨by rw [← hq_];exact (by (with_reducible repeat (first|apply Kd.R_alloc|apply Kd.R_drewN|apply Kd.R_drew));exact HO_107000.out)⟩;have n1_ : A0_ (Kd.S (Kd.slice 4 Kd.bool) 23 w29 w.heap.size (fun k_ => some k_ ≠ (.slice Ao21 t113.length co21 : Value).ownBlock) (.slice Ao33 x107001_2.length co33) x107001_2):=⟨by rw [← hq_];exact (by (with_reducible repeat (first|apply Kd.S_alloc|apply Kd.S_drewN|apply Kd.S_drew));exact HO_107001.out)⟩;have n2_ : A0_ (w29.heap[gb105]? = some (.cells #[.slice none 0 0,.slice none 0 0,.int .i64 x106002_2] 26 (0,0))):=⟨by rw [← hq_];exact (by (with_reducible repeat (first|refine bN_ ?_ _|refine bD_ ?_|refine bA_ ?_ _));exact BK105.out)⟩;have n3_ : A0_ (w29.heap[gb106]? = some (.cells #[.slice Ao21 t113.length co21,.slice Ao33 x107001_2.length co33,.int .i64 x107002_2] 26 (0,0))):=⟨by rw [← hq_];exact (by (with_reducible repeat (first|refine bN_ ?_ _|refine bD_ ?_|refine bA_ ?_ _));exact BK106.out)⟩;have n4_ : A0_ (IsS98 w0 w29 g t123 t124 t125 t126):=⟨by rw [← hq_];exact (by repeat (first|(with_reducible first|exact HI0.out|apply IsS98.alloc|apply IsS98.drewN|apply IsS98.drew|apply IsS98.set_0|apply IsS98.set_1|apply IsS98.set_2|apply IsS98.set_3|refine IsS98.far ?_ NB0_105.out _|refine IsS98.far ?_ NB0_106.out _)|exact HI0.out))⟩;have n5_ : A0_ (KeepBut w w29 g none):=⟨by rw [← hq_];exact (by repeat (first|(with_reducible first|exact HK.out|apply KeepBut.set_|apply keep_drewN|apply keep_drew|apply keep_alloc|refine keep_far ?_ GW105.out _|refine keep_far ?_ GW106.out _)|exact HK.out))⟩;have n6_ : A0_ (Below w0.heap.size w0 w29):=⟨by rw [← hq_];exact (by repeat (first|(with_reducible first|exact HB.out|apply eA_|apply eN_|apply eD_|refine eS_ ?_ (IsS98.ge HI0.out)|refine eS_ ?_ GE105.out|refine eS_ ?_ GE106.out)|exact HB.out))⟩;clear HO_107000 HO_107001 BK105 BK106 HI0 HK HB hq_;have HO_107000:=n0_;have HO_107001:=n1_;have BK105:=n2_;have BK106:=n3_;have HI0:=n4_;have HK:=n5_;have HB:=n6_;clear n0_ n1_ n2_ n3_ n4_ n5_ n6_)))|((with_reducible refine gate_callee (f:=94) rfl ?_);refine goesL_ (some 66) rfl rfl Tryd.func94 (by kernel_rfl) rfl #[.string t127] rfl (by (try simp only [List.map_toArray,List.map_cons,List.map_nil]);first|done|rfl|(simp only [List.length_drop,List.length_take];rfl)) ?_;(with_reducible refine (stim_number.calls t127 t129 true _ ?side1 A42.out).mono ?_);(case side1 => exact GV_below HG.out (by repeat (first|(with_reducible first|exact HB.out|apply eA_|apply eN_|apply eD_|refine eS_ ?_ (IsS98.ge HI0.out)|refine eS_ ?_ GE105.out|refine eS_ ?_ GE106.out)|exact HB.out)));rintro e w47 ⟨rfl,hb⟩;refine ⟨_,rfl,?_⟩;have n0_:=A0_.mk (Kd.R_below (by (with_reducible repeat (first|apply Kd.R_alloc|apply Kd.R_drewN|apply Kd.R_drew));exact HO_107000.out) hb);have n1_:=A0_.mk (Kd.S_below (by (with_reducible repeat (first|apply Kd.S_alloc|apply Kd.S_drewN|apply Kd.S_drew));exact HO_107001.out) hb);have n2_:=A0_.mk (blk_below (g:=gb105) (o:=.cells #[.slice none 0 0,.slice none 0 0,.int .i64 x106002_2] 26 (0,0)) (by (with_reducible repeat (first|refine bN_ ?_ _|refine bD_ ?_|refine bA_ ?_ _));exact BK105.out) hb);have n3_:=A0_.mk (blk_below (g:=gb106) (o:=.cells #[.slice Ao21 t113.length co21,.slice Ao33 x107001_2.length co33,.int .i64 x107002_2] 26 (0,0)) (by (with_reducible repeat (first|refine bN_ ?_ _|refine bD_ ?_|refine bA_ ?_ _));exact BK106.out) hb);have n4_:=A0_.mk (IsS98.below (by repeat (first|(with_reducible first|exact HI0.out|apply IsS98.alloc|apply IsS98.drewN|apply IsS98.drew|apply IsS98.set_0|apply IsS98.set_1|apply IsS98.set_2|apply IsS98.set_3|refine IsS98.far ?_ NB0_105.out _|refine IsS98.far ?_ NB0_106.out _)|exact HI0.out)) hb);have n5_:=A0_.mk (KeepBut.trans (by repeat (first|(with_reducible first|exact HK.out|apply KeepBut.set_|apply keep_drewN|apply keep_drew|apply keep_alloc|refine keep_far ?_ GW105.out _|refine keep_far ?_ GW106.out _)|exact HK.out)) (KeepBut.of_below hb g none) (.inl rfl));have n6_:=A0_.mk (below_step (by repeat (first|(with_reducible first|exact HB.out|apply eA_|apply eN_|apply eD_|refine eS_ ?_ (IsS98.ge HI0.out)|refine eS_ ?_ GE105.out|refine eS_ ?_ GE106.out)|exact HB.out)) hb);clear HO_107000;clear HO_107001;clear BK105;clear BK106;clear HI0;clear HK;clear HB;have HO_107000:=n0_;have HO_107001:=n1_;have BK105:=n2_;have BK106:=n3_;have HI0:=n4_;have HK:=n5_;have HB:=n6_;clear n0_ n1_ n2_ n3_ n4_ n5_ n6_;(try clear hb);(try clear hb2);(try clear hk);(try clear hi);have hnb48:=NB106_105.out;have hnc48:=NB105_106.out;have hnb49:=NB106_0.out;have hnc49:=NB0_106.out;have hcz50_0 : w47.cell? ⟨gb106,0,none⟩ = some (.slice Ao21 t113.length co21):=(bC_ BK106.out 0).trans rfl;have hcz50_1 : w47.cell? ⟨gb106,1,none⟩ = some (.slice Ao33 x107001_2.length co33):=(bC_ BK106.out 1).trans rfl;have hcz50_2 : w47.cell? ⟨gb106,2,none⟩ = some (.int .i64 x107002_2):=(bC_ BK106.out 2).trans rfl;have hfz50_0:=bF_ BK106.out 0;have hfz50_1:=bF_ BK106.out 1;have hfz50_2:=bF_ BK106.out 2)|((with_reducible refine gate_callee (f:=74) rfl ?_);refine goesL_ (some 84) rfl rfl Tryd.func74 (by kernel_rfl) rfl #[.pointer (some ⟨g,0,none⟩),.string t121] rfl (by (try simp only [List.map_toArray,List.map_cons,List.map_nil]);first|done|rfl|(simp only [List.length_drop,List.length_take];rfl)) ?_;(with_reducible refine (stim_reader_skip.calls g t123 t124 t125 t126 t121 t131 t132 t133 t134 w0 _ ?side1 ?side2 A46.out).mono ?_);(case side1 => repeat (first|(with_reducible first|exact HI0.out|apply IsS98.alloc|apply IsS98.drewN|apply IsS98.drew|apply IsS98.set_0|apply IsS98.set_1|apply IsS98.set_2|apply IsS98.set_3|refine IsS98.far ?_ NB0_105.out _|refine IsS98.far ?_ NB0_106.out _)|exact HI0.out));(case side2 => repeat (first|(with_reducible first|exact HB.out|apply eA_|apply eN_|apply eD_|refine eS_ ?_ (IsS98.ge HI0.out)|refine eS_ ?_ GE105.out|refine eS_ ?_ GE106.out)|exact HB.out));rintro e w51 ⟨rfl,hi,hb,hk⟩;refine ⟨_,rfl,?_⟩;have n0_:=A0_.mk (Kd.R_mono (Kd.R_keep (IsS98.apart (show IsS98 w0 _ g t123 t124 t125 t126 from by repeat (first|(with_reducible first|exact HI0.out|apply IsS98.alloc|apply IsS98.drewN|apply IsS98.drew|apply IsS98.set_0|apply IsS98.set_1|apply IsS98.set_2|apply IsS98.set_3|refine IsS98.far ?_ NB0_105.out _|refine IsS98.far ?_ NB0_106.out _)|exact HI0.out)) (by (with_reducible repeat (first|apply Kd.R_alloc|apply Kd.R_drewN|apply Kd.R_drew));exact (Kd.R_mono (Kd.R_far (p:=⟨gb106,2,none⟩) (Kd.R_types HO_107000.out BK106.out (by decide)) (fun _ hk => hk.2) (.int .i64 t129)) (fun _ h_ => h_.1))) (by decide)) hk (fun _ h => h.2)) (fun _ h => h.1));have n1_:=A0_.mk (Kd.S_mono (Kd.S_keep (IsS98.apartS (show IsS98 w0 _ g t123 t124 t125 t126 from by repeat (first|(with_reducible first|exact HI0.out|apply IsS98.alloc|apply IsS98.drewN|apply IsS98.drew|apply IsS98.set_0|apply IsS98.set_1|apply IsS98.set_2|apply IsS98.set_3|refine IsS98.far ?_ NB0_105.out _|refine IsS98.far ?_ NB0_106.out _)|exact HI0.out)) (by (with_reducible repeat (first|apply Kd.S_alloc|apply Kd.S_drewN|apply Kd.S_drew));exact (Kd.S_mono (Kd.S_far (p:=⟨gb106,2,none⟩) (Kd.S_types HO_107001.out BK106.out (by decide)) (fun _ hk => hk.2) (.int .i64 t129)) (fun _ h_ => h_.1))) (by decide)) hk (fun _ h => h.2)) (fun _ h => h.1));have n2_:=A0_.mk (KeepBut.blk hk (g':=gb105) (o:=.cells #[.slice none 0 0,.slice none 0 0,.int .i64 x106002_2] 26 (0,0)) (by (with_reducible repeat (first|refine bN_ ?_ _|refine bD_ ?_|refine bA_ ?_ _));refine blk_far ?_ NB105_106.out _;(with_reducible repeat (first|refine bN_ ?_ _|refine bD_ ?_|refine bA_ ?_ _));exact BK105.out) NB105_0.out (by simp));have n3_:=A0_.mk (KeepBut.blk hk (g':=gb106) (o:=.cells #[.slice Ao21 t113.length co21,.slice Ao33 x107001_2.length co33,.int .i64 t129] 26 (0,0)) (by (with_reducible repeat (first|refine bN_ ?_ _|refine bD_ ?_|refine bA_ ?_ _));refine blk_put (cs:=#[.slice Ao21 t113.length co21,.slice Ao33 x107001_2.length co33,.int .i64 x107002_2]) ?_ 2 _ rfl;(with_reducible repeat (first|refine bN_ ?_ _|refine bD_ ?_|refine bA_ ?_ _));exact BK106.out) NB106_0.out (by simp));have n4_:=A0_.mk (KeepBut.trans (by repeat (first|(with_reducible first|exact HK.out|apply KeepBut.set_|apply keep_drewN|apply keep_drew|apply keep_alloc|refine keep_far ?_ GW105.out _|refine keep_far ?_ GW106.out _)|exact HK.out)) hk (.inl rfl));have n5_:=A0_.mk (hb);have n6_:=A0_.mk (hi);clear HO_107000;clear HO_107001;clear BK105;clear BK106;clear HK;clear HB;clear HI0;have HO_107000:=n0_;have HO_107001:=n1_;have BK105:=n2_;have BK106:=n3_;have HK:=n4_;have HB:=n5_;have HI0:=n6_;clear n0_ n1_ n2_ n3_ n4_ n5_ n6_;(try clear hb);(try clear hb2);(try clear hk);(try clear hi);have hcz52_0 : w51.cell? ⟨gb106,0,none⟩ = some (.slice Ao21 t113.length co21):=(bC_ BK106.out 0).trans rfl;have hcz52_1 : w51.cell? ⟨gb106,1,none⟩ = some (.slice Ao33 x107001_2.length co33):=(bC_ BK106.out 1).trans rfl;have hcz52_2 : w51.cell? ⟨gb106,2,none⟩ = some (.int .i64 t129):=(bC_ BK106.out 2).trans rfl;have hfz52_0:=bF_ BK106.out 0;have hfz52_1:=bF_ BK106.out 1;have hfz52_2:=bF_ BK106.out 2;have hnb53:=NB105_0.out;have hnc53:=NB0_105.out;have hcz54_0 : w51.cell? ⟨gb105,0,none⟩ = some (.slice none 0 0):=(bC_ BK105.out 0).trans rfl;have hcz54_1 : w51.cell? ⟨gb105,1,none⟩ = some (.slice none 0 0):=(bC_ BK105.out 1).trans rfl;have hcz54_2 : w51.cell? ⟨gb105,2,none⟩ = some (.int .i64 x106002_2):=(bC_ BK105.out 2).trans rfl;have hfz54_0:=bF_ BK105.out 0;have hfz54_1:=bF_ BK105.out 1;have hfz54_2:=bF_ BK105.out 2))
             refine bodyPost_ret (results_ct rfl _ _ gb105 26 #[.slice Ao21 t113.length co21,.slice Ao33 x107001_2.length co33,.int .i64 t129] (0,0) _ rfl (by (with_reducible repeat (first|refine bN_ ?_ _|refine bD_ ?_|refine bA_ ?_ _));refine blk_put (cs:=#[.slice Ao21 t113.length co21,.slice Ao33 x107001_2.length co33,.int .i64 x106002_2]) ?_ 2 _ rfl;(with_reducible repeat (first|refine bN_ ?_ _|refine bD_ ?_|refine bA_ ?_ _));refine blk_put (cs:=#[.slice Ao21 t113.length co21,.slice none 0 0,.int .i64 x106002_2]) ?_ 1 _ rfl;(with_reducible repeat (first|refine bN_ ?_ _|refine bD_ ?_|refine bA_ ?_ _));refine blk_put (cs:=#[.slice none 0 0,.slice none 0 0,.int .i64 x106002_2]) ?_ 0 _ rfl;(with_reducible repeat (first|refine bN_ ?_ _|refine bD_ ?_|refine bA_ ?_ _));exact BK105.out) Tryd.underlying26 rfl (by kernel_rfl)) rfl ?_
             exact ⟨_,_,by first|rfl|(simp [errW_none,errW_some] <;> rfl)|(simp [*,errW_none,errW_some] <;> rfl),by (with_reducible repeat (first|apply Kd.R_alloc|apply Kd.R_drewN|apply Kd.R_drew));exact Kd.R_mono (Kd.R_far (p:=⟨gb105,2,none⟩) (Kd.R_far (p:=⟨gb105,1,none⟩) (Kd.R_far (p:=⟨gb105,0,none⟩) (Kd.R_types HO_107000.out BK105.out (by decide)) (fun _ hk => hk.2) (.slice Ao21 t113.length co21)) (fun _ hk => hk.2) (.slice Ao33 x107001_2.length co33)) (fun _ hk => hk.2) (.int .i64 t129)) (fun _ hk => trivial),by (with_reducible repeat (first|apply Kd.S_alloc|apply Kd.S_drewN|apply Kd.S_drew));exact Kd.S_mono (Kd.S_far (p:=⟨gb105,2,none⟩) (Kd.S_far (p:=⟨gb105,1,none⟩) (Kd.S_far (p:=⟨gb105,0,none⟩) (Kd.S_types HO_107001.out BK105.out (by decide)) (fun _ hk => hk.2) (.slice Ao21 t113.length co21)) (fun _ hk => hk.2) (.slice Ao33 x107001_2.length co33)) (fun _ hk => hk.2) (.int .i64 t129)) (fun _ hk => hk.1),by repeat (first|(with_reducible first|exact HI0.out|apply IsS98.alloc|apply IsS98.drewN|apply IsS98.drew|apply IsS98.set_0|apply IsS98.set_1|apply IsS98.set_2|apply IsS98.set_3|refine IsS98.far ?_ NB0_105.out _|refine IsS98.far ?_ NB0_106.out _)|exact HI0.out),by repeat (first|(with_reducible first|exact HB.out|apply eA_|apply eN_|apply eD_|refine eS_ ?_ (IsS98.ge HI0.out)|refine eS_ ?_ GE105.out|refine eS_ ?_ GE106.out)|exact HB.out),by repeat (first|(with_reducible first|exact HK.out|apply KeepBut.set_|apply keep_drewN|apply keep_drew|apply keep_alloc|refine keep_far ?_ GW105.out _|refine keep_far ?_ GW106.out _)|exact HK.out)⟩
            ·rw [if_neg c45] at H
             have c45b0 : decide (t129 < (x107001_2.length : Int)) = false:=decide_eq_false c45
             clear c45
             have H':=A0_.mk H
             clear H
             go_wp2_with (first|((with_reducible refine gate_callee (f:=96) rfl ?_);refine goesL_ (some 61) rfl rfl Tryd.func96 (by kernel_rfl) rfl #[.string t121,.string (⟨#[99,32,108,111,111,112,32]⟩ : ByteArray)] rfl (by (try simp only [List.map_toArray,List.map_cons,List.map_nil]);first|done|rfl|(simp only [List.length_drop,List.length_take];rfl)) ?_;(with_reducible refine (strings_CutPrefix.calls t121 (⟨#[99,32,108,111,111,112,32]⟩ : ByteArray) t127 true _ A41.out).mono ?_);rintro e w' ⟨rfl,⟨nd,rfl⟩⟩;refine ⟨_,rfl,?_⟩)|((with_reducible refine gate_callee (f:=94) rfl ?_);refine goesL_ (some 66) rfl rfl Tryd.func94 (by kernel_rfl) rfl #[.string t127] rfl (by (try simp only [List.map_toArray,List.map_cons,List.map_nil]);first|done|rfl|(simp only [List.length_drop,List.length_take];rfl)) ?_;(with_reducible refine (stim_number.calls t127 t129 true _ ?side1 A42.out).mono ?_);(case side1 => exact GV_below HG.out (by repeat (first|(with_reducible first|exact HB.out|apply eA_|apply eN_|apply eD_|refine eS_ ?_ (IsS98.ge HI0.out)|refine eS_ ?_ GE105.out|refine eS_ ?_ GE106.out)|exact HB.out)));rintro e w55 ⟨rfl,hb⟩;refine ⟨_,rfl,?_⟩;have n0_:=A0_.mk (Kd.R_below (by (with_reducible repeat (first|apply Kd.R_alloc|apply Kd.R_drewN|apply Kd.R_drew));exact HO_107000.out) hb);have n1_:=A0_.mk (Kd.S_below (by (with_reducible repeat (first|apply Kd.S_alloc|apply Kd.S_drewN|apply Kd.S_drew));exact HO_107001.out) hb);have n2_:=A0_.mk (blk_below (g:=gb105) (o:=.cells #[.slice none 0 0,.slice none 0 0,.int .i64 x106002_2] 26 (0,0)) (by (with_reducible repeat (first|refine bN_ ?_ _|refine bD_ ?_|refine bA_ ?_ _));exact BK105.out) hb);have n3_:=A0_.mk (blk_below (g:=gb106) (o:=.cells #[.slice Ao21 t113.length co21,.slice Ao33 x107001_2.length co33,.int .i64 x107002_2] 26 (0,0)) (by (with_reducible repeat (first|refine bN_ ?_ _|refine bD_ ?_|refine bA_ ?_ _));exact BK106.out) hb);have n4_:=A0_.mk (IsS98.below (by repeat (first|(with_reducible first|exact HI0.out|apply IsS98.alloc|apply IsS98.drewN|apply IsS98.drew|apply IsS98.set_0|apply IsS98.set_1|apply IsS98.set_2|apply IsS98.set_3|refine IsS98.far ?_ NB0_105.out _|refine IsS98.far ?_ NB0_106.out _)|exact HI0.out)) hb);have n5_:=A0_.mk (KeepBut.trans (by repeat (first|(with_reducible first|exact HK.out|apply KeepBut.set_|apply keep_drewN|apply keep_drew|apply keep_alloc|refine keep_far ?_ GW105.out _|refine keep_far ?_ GW106.out _)|exact HK.out)) (KeepBut.of_below hb g none) (.inl rfl));have n6_:=A0_.mk (below_step (by repeat (first|(with_reducible first|exact HB.out|apply eA_|apply eN_|apply eD_|refine eS_ ?_ (IsS98.ge HI0.out)|refine eS_ ?_ GE105.out|refine eS_ ?_ GE106.out)|exact HB.out)) hb);clear HO_107000;clear HO_107001;clear BK105;clear BK106;clear HI0;clear HK;clear HB;have HO_107000:=n0_;have HO_107001:=n1_;have BK105:=n2_;have BK106:=n3_;have HI0:=n4_;have HK:=n5_;have HB:=n6_;clear n0_ n1_ n2_ n3_ n4_ n5_ n6_;(try clear hb);(try clear hb2);(try clear hk);(try clear hi);have hnb56:=NB106_105.out;have hnc56:=NB105_106.out;have hnb57:=NB106_0.out;have hnc57:=NB0_106.out;have hcz58_0 : w55.cell? ⟨gb106,0,none⟩ = some (.slice Ao21 t113.length co21):=(bC_ BK106.out 0).trans rfl;have hcz58_1 : w55.cell? ⟨gb106,1,none⟩ = some (.slice Ao33 x107001_2.length co33):=(bC_ BK106.out 1).trans rfl;have hcz58_2 : w55.cell? ⟨gb106,2,none⟩ = some (.int .i64 x107002_2):=(bC_ BK106.out 2).trans rfl;have hfz58_0:=bF_ BK106.out 0;have hfz58_1:=bF_ BK106.out 1;have hfz58_2:=bF_ BK106.out 2))
             go_meet
             case rel => exact ⟨_,(t123),(t124),(t125),(t126),(x106002_2),(x107002_2),H',⟨by have:=HJ3.out;have:=HK2.out;first|omega|exact Nat.le_refl _⟩,⟨by (with_reducible repeat (first|apply Kd.R_alloc|apply Kd.R_drewN|apply Kd.R_drew));exact HO_107000.out⟩,⟨by (with_reducible repeat (first|apply Kd.S_alloc|apply Kd.S_drewN|apply Kd.S_drew));exact HO_107001.out⟩,⟨by (with_reducible repeat (first|refine bN_ ?_ _|refine bD_ ?_|refine bA_ ?_ _));exact BK105.out⟩,⟨by (with_reducible repeat (first|refine bN_ ?_ _|refine bD_ ?_|refine bA_ ?_ _));exact BK106.out⟩,⟨by repeat (first|(with_reducible first|exact HI0.out|apply IsS98.alloc|apply IsS98.drewN|apply IsS98.drew|apply IsS98.set_0|apply IsS98.set_1|apply IsS98.set_2|apply IsS98.set_3|refine IsS98.far ?_ NB0_105.out _|refine IsS98.far ?_ NB0_106.out _)|exact HI0.out)⟩,⟨by repeat (first|(with_reducible first|exact HK.out|apply KeepBut.set_|apply keep_drewN|apply keep_drew|apply keep_alloc|refine keep_far ?_ GW105.out _|refine keep_far ?_ GW106.out _)|exact HK.out)⟩,⟨by repeat (first|(with_reducible first|exact HB.out|apply eA_|apply eN_|apply eD_|refine eS_ ?_ (IsS98.ge HI0.out)|refine eS_ ?_ GE105.out|refine eS_ ?_ GE106.out)|exact HB.out)⟩⟩
           ·replace c44:=Bool.eq_false_iff.mpr c44
            subst c44
            have H1 : (stim_reader_trace.j2 k2 t121 t123 t124 t125 t126 t113 x107001_2 x107002_2) = some (r1,r2,r3,r4,r5,r6,r7,r8):=by rw [if_neg (show ¬ (false = true) by decide)] at H;exact H
            clear H
            have H:=H1
            clear H1
            have H':=A0_.mk H
            clear H
            go_wp2_with (first|((with_reducible refine gate_callee (f:=96) rfl ?_);refine goesL_ (some 61) rfl rfl Tryd.func96 (by kernel_rfl) rfl #[.string t121,.string (⟨#[99,32,108,111,111,112,32]⟩ : ByteArray)] rfl (by (try simp only [List.map_toArray,List.map_cons,List.map_nil]);first|done|rfl|(simp only [List.length_drop,List.length_take];rfl)) ?_;(with_reducible refine (strings_CutPrefix.calls t121 (⟨#[99,32,108,111,111,112,32]⟩ : ByteArray) t127 true _ A41.out).mono ?_);rintro e w' ⟨rfl,⟨nd,rfl⟩⟩;refine ⟨_,rfl,?_⟩)|((with_reducible refine gate_callee (f:=94) rfl ?_);refine goesL_ (some 66) rfl rfl Tryd.func94 (by kernel_rfl) rfl #[.string t127] rfl (by (try simp only [List.map_toArray,List.map_cons,List.map_nil]);first|done|rfl|(simp only [List.length_drop,List.length_take];rfl)) ?_;(with_reducible refine (stim_number.calls t127 t129 false _ ?side1 A42.out).mono ?_);(case side1 => exact GV_below HG.out (by repeat (first|(with_reducible first|exact HB.out|apply eA_|apply eN_|apply eD_|refine eS_ ?_ (IsS98.ge HI0.out)|refine eS_ ?_ GE105.out|refine eS_ ?_ GE106.out)|exact HB.out)));rintro e w59 ⟨rfl,hb⟩;refine ⟨_,rfl,?_⟩;have n0_:=A0_.mk (Kd.R_below (by (with_reducible repeat (first|apply Kd.R_alloc|apply Kd.R_drewN|apply Kd.R_drew));exact HO_107000.out) hb);have n1_:=A0_.mk (Kd.S_below (by (with_reducible repeat (first|apply Kd.S_alloc|apply Kd.S_drewN|apply Kd.S_drew));exact HO_107001.out) hb);have n2_:=A0_.mk (blk_below (g:=gb105) (o:=.cells #[.slice none 0 0,.slice none 0 0,.int .i64 x106002_2] 26 (0,0)) (by (with_reducible repeat (first|refine bN_ ?_ _|refine bD_ ?_|refine bA_ ?_ _));exact BK105.out) hb);have n3_:=A0_.mk (blk_below (g:=gb106) (o:=.cells #[.slice Ao21 t113.length co21,.slice Ao33 x107001_2.length co33,.int .i64 x107002_2] 26 (0,0)) (by (with_reducible repeat (first|refine bN_ ?_ _|refine bD_ ?_|refine bA_ ?_ _));exact BK106.out) hb);have n4_:=A0_.mk (IsS98.below (by repeat (first|(with_reducible first|exact HI0.out|apply IsS98.alloc|apply IsS98.drewN|apply IsS98.drew|apply IsS98.set_0|apply IsS98.set_1|apply IsS98.set_2|apply IsS98.set_3|refine IsS98.far ?_ NB0_105.out _|refine IsS98.far ?_ NB0_106.out _)|exact HI0.out)) hb);have n5_:=A0_.mk (KeepBut.trans (by repeat (first|(with_reducible first|exact HK.out|apply KeepBut.set_|apply keep_drewN|apply keep_drew|apply keep_alloc|refine keep_far ?_ GW105.out _|refine keep_far ?_ GW106.out _)|exact HK.out)) (KeepBut.of_below hb g none) (.inl rfl));have n6_:=A0_.mk (below_step (by repeat (first|(with_reducible first|exact HB.out|apply eA_|apply eN_|apply eD_|refine eS_ ?_ (IsS98.ge HI0.out)|refine eS_ ?_ GE105.out|refine eS_ ?_ GE106.out)|exact HB.out)) hb);clear HO_107000;clear HO_107001;clear BK105;clear BK106;clear HI0;clear HK;clear HB;have HO_107000:=n0_;have HO_107001:=n1_;have BK105:=n2_;have BK106:=n3_;have HI0:=n4_;have HK:=n5_;have HB:=n6_;clear n0_ n1_ n2_ n3_ n4_ n5_ n6_;(try clear hb);(try clear hb2);(try clear hk);(try clear hi)))
            go_meet
            case rel => exact ⟨_,(t123),(t124),(t125),(t126),(x106002_2),(x107002_2),H',⟨by have:=HJ3.out;have:=HK2.out;first|omega|exact Nat.le_refl _⟩,⟨by (with_reducible repeat (first|apply Kd.R_alloc|apply Kd.R_drewN|apply Kd.R_drew));exact HO_107000.out⟩,⟨by (with_reducible repeat (first|apply Kd.S_alloc|apply Kd.S_drewN|apply Kd.S_drew));exact HO_107001.out⟩,⟨by (with_reducible repeat (first|refine bN_ ?_ _|refine bD_ ?_|refine bA_ ?_ _));exact BK105.out⟩,⟨by (with_reducible repeat (first|refine bN_ ?_ _|refine bD_ ?_|refine bA_ ?_ _));exact BK106.out⟩,⟨by repeat (first|(with_reducible first|exact HI0.out|apply IsS98.alloc|apply IsS98.drewN|apply IsS98.drew|apply IsS98.set_0|apply IsS98.set_1|apply IsS98.set_2|apply IsS98.set_3|refine IsS98.far ?_ NB0_105.out _|refine IsS98.far ?_ NB0_106.out _)|exact HI0.out)⟩,⟨by repeat (first|(with_reducible first|exact HK.out|apply KeepBut.set_|apply keep_drewN|apply keep_drew|apply keep_alloc|refine keep_far ?_ GW105.out _|refine keep_far ?_ GW106.out _)|exact HK.out)⟩,⟨by repeat (first|(with_reducible first|exact HB.out|apply eA_|apply eN_|apply eD_|refine eS_ ?_ (IsS98.ge HI0.out)|refine eS_ ?_ GE105.out|refine eS_ ?_ GE106.out)|exact HB.out)⟩⟩
          ·replace c43:=Bool.eq_false_iff.mpr c43
           subst c43
           have H1 : (stim_reader_trace.j2 k2 t121 t123 t124 t125 t126 t113 x107001_2 x107002_2) = some (r1,r2,r3,r4,r5,r6,r7,r8):=by rw [if_neg (show ¬ (false = true) by decide)] at H;exact H
           clear H
           have H:=H1
           clear H1
           have H':=A0_.mk H
           clear H
           go_wp2_with (first|((with_reducible refine gate_callee (f:=96) rfl ?_);refine goesL_ (some 61) rfl rfl Tryd.func96 (by kernel_rfl) rfl #[.string t121,.string (⟨#[99,32,108,111,111,112,32]⟩ : ByteArray)] rfl (by (try simp only [List.map_toArray,List.map_cons,List.map_nil]);first|done|rfl|(simp only [List.length_drop,List.length_take];rfl)) ?_;(with_reducible refine (strings_CutPrefix.calls t121 (⟨#[99,32,108,111,111,112,32]⟩ : ByteArray) t127 false _ A41.out).mono ?_);rintro e w' ⟨rfl,⟨nd,rfl⟩⟩;refine ⟨_,rfl,?_⟩)|((with_reducible refine gate_callee (f:=94) rfl ?_);refine goesL_ (some 66) rfl rfl Tryd.func94 (by kernel_rfl) rfl #[.string t127] rfl (by (try simp only [List.map_toArray,List.map_cons,List.map_nil]);first|done|rfl|(simp only [List.length_drop,List.length_take];rfl)) ?_;(with_reducible refine (stim_number.calls t127 t129 t130 _ ?side1 A42.out).mono ?_);(case side1 => exact GV_below HG.out (by repeat (first|(with_reducible first|exact HB.out|apply eA_|apply eN_|apply eD_|refine eS_ ?_ (IsS98.ge HI0.out)|refine eS_ ?_ GE105.out|refine eS_ ?_ GE106.out)|exact HB.out)));rintro e w60 ⟨rfl,hb⟩;refine ⟨_,rfl,?_⟩;have n0_:=A0_.mk (Kd.R_below (by (with_reducible repeat (first|apply Kd.R_alloc|apply Kd.R_drewN|apply Kd.R_drew));exact HO_107000.out) hb);have n1_:=A0_.mk (Kd.S_below (by (with_reducible repeat (first|apply Kd.S_alloc|apply Kd.S_drewN|apply Kd.S_drew));exact HO_107001.out) hb);have n2_:=A0_.mk (blk_below (g:=gb105) (o:=.cells #[.slice none 0 0,.slice none 0 0,.int .i64 x106002_2] 26 (0,0)) (by (with_reducible repeat (first|refine bN_ ?_ _|refine bD_ ?_|refine bA_ ?_ _));exact BK105.out) hb);have n3_:=A0_.mk (blk_below (g:=gb106) (o:=.cells #[.slice Ao21 t113.length co21,.slice Ao33 x107001_2.length co33,.int .i64 x107002_2] 26 (0,0)) (by (with_reducible repeat (first|refine bN_ ?_ _|refine bD_ ?_|refine bA_ ?_ _));exact BK106.out) hb);have n4_:=A0_.mk (IsS98.below (by repeat (first|(with_reducible first|exact HI0.out|apply IsS98.alloc|apply IsS98.drewN|apply IsS98.drew|apply IsS98.set_0|apply IsS98.set_1|apply IsS98.set_2|apply IsS98.set_3|refine IsS98.far ?_ NB0_105.out _|refine IsS98.far ?_ NB0_106.out _)|exact HI0.out)) hb);have n5_:=A0_.mk (KeepBut.trans (by repeat (first|(with_reducible first|exact HK.out|apply KeepBut.set_|apply keep_drewN|apply keep_drew|apply keep_alloc|refine keep_far ?_ GW105.out _|refine keep_far ?_ GW106.out _)|exact HK.out)) (KeepBut.of_below hb g none) (.inl rfl));have n6_:=A0_.mk (below_step (by repeat (first|(with_reducible first|exact HB.out|apply eA_|apply eN_|apply eD_|refine eS_ ?_ (IsS98.ge HI0.out)|refine eS_ ?_ GE105.out|refine eS_ ?_ GE106.out)|exact HB.out)) hb);clear HO_107000;clear HO_107001;clear BK105;clear BK106;clear HI0;clear HK;clear HB;have HO_107000:=n0_;have HO_107001:=n1_;have BK105:=n2_;have BK106:=n3_;have HI0:=n4_;have HK:=n5_;have HB:=n6_;clear n0_ n1_ n2_ n3_ n4_ n5_ n6_;(try clear hb);(try clear hb2);(try clear hk);(try clear hi)))
           go_meet
           case rel => exact ⟨_,(t123),(t124),(t125),(t126),(x106002_2),(x107002_2),H',⟨by have:=HJ3.out;have:=HK2.out;first|omega|exact Nat.le_refl _⟩,⟨by (with_reducible repeat (first|apply Kd.R_alloc|apply Kd.R_drewN|apply Kd.R_drew));exact HO_107000.out⟩,⟨by (with_reducible repeat (first|apply Kd.S_alloc|apply Kd.S_drewN|apply Kd.S_drew));exact HO_107001.out⟩,⟨by (with_reducible repeat (first|refine bN_ ?_ _|refine bD_ ?_|refine bA_ ?_ _));exact BK105.out⟩,⟨by (with_reducible repeat (first|refine bN_ ?_ _|refine bD_ ?_|refine bA_ ?_ _));exact BK106.out⟩,⟨by repeat (first|(with_reducible first|exact HI0.out|apply IsS98.alloc|apply IsS98.drewN|apply IsS98.drew|apply IsS98.set_0|apply IsS98.set_1|apply IsS98.set_2|apply IsS98.set_3|refine IsS98.far ?_ NB0_105.out _|refine IsS98.far ?_ NB0_106.out _)|exact HI0.out)⟩,⟨by repeat (first|(with_reducible first|exact HK.out|apply KeepBut.set_|apply keep_drewN|apply keep_drew|apply keep_alloc|refine keep_far ?_ GW105.out _|refine keep_far ?_ GW106.out _)|exact HK.out)⟩,⟨by repeat (first|(with_reducible first|exact HB.out|apply eA_|apply eN_|apply eD_|refine eS_ ?_ (IsS98.ge HI0.out)|refine eS_ ?_ GE105.out|refine eS_ ?_ GE106.out)|exact HB.out)⟩⟩
        ·rw [if_neg c34] at H
         have c34b0 : decide (0 < (x107001_2.length : Int)) = false:=decide_eq_false c34
         have c34b1 : decide (0 < x107001_2.length) = false:=decide_eq_false (by omega)
         have c34b2 : ¬ (0 < x107001_2.length):=by omega
         clear c34
         (first|rw [c34b0]|(simp only [i64_w,i32_w];rw [c34b0])|skip)
         have H':=A0_.mk H
         clear H
         go_wp2
         go_meet
         case rel => exact ⟨_,(t123),(t124),(t125),(t126),(x106002_2),(x107002_2),H',⟨by have:=HJ3.out;have:=HK2.out;first|omega|exact Nat.le_refl _⟩,⟨by (with_reducible repeat (first|apply Kd.R_alloc|apply Kd.R_drewN|apply Kd.R_drew));exact HO_107000.out⟩,⟨by (with_reducible repeat (first|apply Kd.S_alloc|apply Kd.S_drewN|apply Kd.S_drew));exact HO_107001.out⟩,⟨by (with_reducible repeat (first|refine bN_ ?_ _|refine bD_ ?_|refine bA_ ?_ _));exact BK105.out⟩,⟨by (with_reducible repeat (first|refine bN_ ?_ _|refine bD_ ?_|refine bA_ ?_ _));exact BK106.out⟩,⟨by repeat (first|(with_reducible first|exact HI0.out|apply IsS98.alloc|apply IsS98.drewN|apply IsS98.drew|apply IsS98.set_0|apply IsS98.set_1|apply IsS98.set_2|apply IsS98.set_3|refine IsS98.far ?_ NB0_105.out _|refine IsS98.far ?_ NB0_106.out _)|exact HI0.out)⟩,⟨by repeat (first|(with_reducible first|exact HK.out|apply KeepBut.set_|apply keep_drewN|apply keep_drew|apply keep_alloc|refine keep_far ?_ GW105.out _|refine keep_far ?_ GW106.out _)|exact HK.out)⟩,⟨by repeat (first|(with_reducible first|exact HB.out|apply eA_|apply eN_|apply eD_|refine eS_ ?_ (IsS98.ge HI0.out)|refine eS_ ?_ GE105.out|refine eS_ ?_ GE106.out)|exact HB.out)⟩⟩
       case rest =>
        clear HC28
        try clear c1
        try clear c2
        try clear p2
        try clear c3
        try clear c4
        try clear c5
        try clear c7
        try clear c8
        try clear c9
        try clear c13
        try clear c14
        try clear c15
        try clear c16
        try clear c18
        try clear c22
        try clear c23
        try clear c27
        try clear c30
        try clear c31
        try clear c34
        try clear c34b0
        try clear c34b1
        try clear c34b2
        try clear c35
        try clear c35b0
        try clear c35b1
        try clear c36
        try clear c37
        try clear c39
        try clear c43
        try clear c44
        try clear c45
        try clear c45b0
        try clear c48
        try clear c49
        try clear c53
        try clear c56
        try clear c57
        try clear hcz11_0
        try clear hcz11_1
        try clear hcz11_2
        try clear hcz11_3
        try clear hcz17_0
        try clear hcz17_1
        try clear hcz17_2
        try clear hcz19_0
        try clear hcz19_1
        try clear hcz19_2
        try clear hcz24_0
        try clear hcz24_1
        try clear hcz24_2
        try clear hcz32_0
        try clear hcz32_1
        try clear hcz32_2
        try clear hcz38_0
        try clear hcz38_1
        try clear hcz38_2
        try clear hcz40_0
        try clear hcz40_1
        try clear hcz40_2
        try clear hcz50_0
        try clear hcz50_1
        try clear hcz50_2
        try clear hcz52_0
        try clear hcz52_1
        try clear hcz52_2
        try clear hcz54_0
        try clear hcz54_1
        try clear hcz54_2
        try clear hcz58_0
        try clear hcz58_1
        try clear hcz58_2
        try clear hcz9_0
        try clear hcz9_1
        try clear hcz9_2
        try clear hfz11_0
        try clear hfz11_1
        try clear hfz11_2
        try clear hfz11_3
        try clear hfz17_0
        try clear hfz17_1
        try clear hfz17_2
        try clear hfz19_0
        try clear hfz19_1
        try clear hfz19_2
        try clear hfz24_0
        try clear hfz24_1
        try clear hfz24_2
        try clear hfz32_0
        try clear hfz32_1
        try clear hfz32_2
        try clear hfz38_0
        try clear hfz38_1
        try clear hfz38_2
        try clear hfz40_0
        try clear hfz40_1
        try clear hfz40_2
        try clear hfz50_0
        try clear hfz50_1
        try clear hfz50_2
        try clear hfz52_0
        try clear hfz52_1
        try clear hfz52_2
        try clear hfz54_0
        try clear hfz54_1
        try clear hfz54_2
        try clear hfz58_0
        try clear hfz58_1
        try clear hfz58_2
        try clear hfz9_0
        try clear hfz9_1
        try clear hfz9_2
        try clear p2
        obtain ⟨kq,x1000_27,x1001_27,x1002_27,x1003_27,x106002_27,x107002_27,HA,HJ27,HO_107000,HO_107001,BK105,BK106,HI0,HK,HB⟩:=hcut
        cases kq with
        |zero => exact absurd HA.out (by simp [stim_reader_trace.j2])
        |succ kj27 =>
         have H:=HA.out
         clear HA
         simp only [stim_reader_trace.j2] at H
         replace H:=Option.bind_eq_some_iff.mp H
         obtain ⟨⟨t135,t136⟩,A610,H⟩:=H
         replace H : (if t136 = true then (if (x107001_2.length : Int) = 512 then (some (t113,x107001_2,x107002_27,false,x1000_27,x1001_27,x1002_27,x1003_27)) else (if x107001_2.length < 5864062014805 then ((stim_reader_skip.f x1000_27 x1001_27 x1002_27 x1003_27 t121).bind fun bt142 => (stim_reader_trace.l0 kj27 bt142.1 bt142.2.1 bt142.2.2.1 bt142.2.2.2 t113 (x107001_2 ++ [t135]) x107002_27)) else (none))) else (some (t113,x107001_2,x107002_27,false,x1000_27,x1001_27,x1002_27,x1003_27))) = some (r1,r2,r3,r4,r5,r6,r7,r8):=H
         have A61:=A0_.mk A610
         clear A610
         by_cases c62 : t136 = true
         ·subst c62
          have H1 : (if (x107001_2.length : Int) = 512 then (some (t113,x107001_2,x107002_27,false,x1000_27,x1001_27,x1002_27,x1003_27)) else (if x107001_2.length < 5864062014805 then ((stim_reader_skip.f x1000_27 x1001_27 x1002_27 x1003_27 t121).bind fun bt142 => (stim_reader_trace.l0 kj27 bt142.1 bt142.2.1 bt142.2.2.1 bt142.2.2.2 t113 (x107001_2 ++ [t135]) x107002_27)) else (none))) = some (r1,r2,r3,r4,r5,r6,r7,r8):=by rw [if_pos rfl] at H;exact H
          clear H
          have H:=H1
          clear H1
          by_cases c63 : (x107001_2.length : Int) = 512
          ·rw [if_pos c63] at H
           have c63b0 : ((x107001_2.length : Int) == 512) = true:=beq_iff_eq.mpr c63
           have c63b1 : ((x107001_2.length : Int) != 512) = false:=bne_eq_false_iff_eq.mpr c63
           clear c63
           simp only [Option.some.injEq,Prod.mk.injEq] at H
           obtain ⟨rfl,rfl,rfl,rfl,rfl,rfl,rfl,rfl⟩:=H
           obtain ⟨HGz64,hgz64⟩:=HI0.out
           have hcz64_0:=cellS98_0 HGz64
           have hcz64_1:=cellS98_1 HGz64
           have hcz64_2:=cellS98_2 HGz64
           have hcz64_3:=cellS98_3 HGz64
           have hfz64_0:=bF_ HGz64 0
           have hfz64_1:=bF_ HGz64 1
           have hfz64_2:=bF_ HGz64 2
           have hfz64_3:=bF_ HGz64 3
           clear HGz64 hgz64
           go_wp2_with (first|((with_reducible refine gate_callee (f:=95) rfl ?_);refine goesL_ (some 92) rfl rfl Tryd.func95 (by kernel_rfl) rfl #[.string t121,.int .i64 x1003_27] rfl (by (try simp only [List.map_toArray,List.map_cons,List.map_nil]);first|done|rfl|(simp only [List.length_drop,List.length_take];rfl)) ?_;(with_reducible refine (stim_row.calls t121 x1003_27 t135 true _ ?side1 A61.out).mono ?_);(case side1 => exact GV_below HG.out (by repeat (first|(with_reducible first|exact HB.out|apply eA_|apply eN_|apply eD_|refine eS_ ?_ (IsS98.ge HI0.out)|refine eS_ ?_ GE105.out|refine eS_ ?_ GE106.out)|exact HB.out)));rintro e w65 ⟨v137,rfl,ho0,hb⟩;refine ⟨_,rfl,?_⟩;have n0_:=A0_.mk (Kd.R_elder' (by (with_reducible repeat (first|apply Kd.R_alloc|apply Kd.R_drewN|apply Kd.R_drew));exact HO_107000.out) (Kd.R_base ho0) hb);have n1_:=A0_.mk (Kd.S_elder' (by (with_reducible repeat (first|apply Kd.S_alloc|apply Kd.S_drewN|apply Kd.S_drew));exact HO_107001.out) (Kd.R_base ho0) hb);have n2_:=A0_.mk (Kd.R_lower (Kd.R_new' ho0 (Kd.R_lt (by (with_reducible repeat (first|apply Kd.R_alloc|apply Kd.R_drewN|apply Kd.R_drew));exact HO_107000.out))) (keep_size (w:=w) (g:=g) (row:=none) (by repeat (first|(with_reducible first|exact HK.out|apply KeepBut.set_|apply keep_drewN|apply keep_drew|apply keep_alloc|refine keep_far ?_ GW105.out _|refine keep_far ?_ GW106.out _)|exact HK.out))));have n3_:=A0_.mk (blk_below (g:=gb105) (o:=.cells #[.slice none 0 0,.slice none 0 0,.int .i64 x106002_27] 26 (0,0)) (by (with_reducible repeat (first|refine bN_ ?_ _|refine bD_ ?_|refine bA_ ?_ _));exact BK105.out) hb);have n4_:=A0_.mk (blk_below (g:=gb106) (o:=.cells #[.slice Ao21 t113.length co21,.slice Ao33 x107001_2.length co33,.int .i64 x107002_27] 26 (0,0)) (by (with_reducible repeat (first|refine bN_ ?_ _|refine bD_ ?_|refine bA_ ?_ _));exact BK106.out) hb);have n5_:=A0_.mk (IsS98.below (by repeat (first|(with_reducible first|exact HI0.out|apply IsS98.alloc|apply IsS98.drewN|apply IsS98.drew|apply IsS98.set_0|apply IsS98.set_1|apply IsS98.set_2|apply IsS98.set_3|refine IsS98.far ?_ NB0_105.out _|refine IsS98.far ?_ NB0_106.out _)|exact HI0.out)) hb);have n6_:=A0_.mk (KeepBut.trans (by repeat (first|(with_reducible first|exact HK.out|apply KeepBut.set_|apply keep_drewN|apply keep_drew|apply keep_alloc|refine keep_far ?_ GW105.out _|refine keep_far ?_ GW106.out _)|exact HK.out)) (KeepBut.of_below hb g none) (.inl rfl));have n7_:=A0_.mk (below_step (by repeat (first|(with_reducible first|exact HB.out|apply eA_|apply eN_|apply eD_|refine eS_ ?_ (IsS98.ge HI0.out)|refine eS_ ?_ GE105.out|refine eS_ ?_ GE106.out)|exact HB.out)) hb);clear HO_107000;clear HO_107001;clear BK105;clear BK106;clear HI0;clear HK;clear HB;have HO_107000:=n0_;have HO_107001:=n1_;have HO138:=n2_;have BK105:=n3_;have BK106:=n4_;have HI0:=n5_;have HK:=n6_;have HB:=n7_;clear n0_ n1_ n2_ n3_ n4_ n5_ n6_ n7_;(try clear hb);(try clear hb2);(try clear hk);(try clear hi);(try clear ho0);have hnb66:=NB106_105.out;have hnc66:=NB105_106.out;have hnb67:=NB106_0.out;have hnc67:=NB0_106.out;have hcz68_0 : w65.cell? ⟨gb106,0,none⟩ = some (.slice Ao21 t113.length co21):=(bC_ BK106.out 0).trans rfl;have hcz68_1 : w65.cell? ⟨gb106,1,none⟩ = some (.slice Ao33 x107001_2.length co33):=(bC_ BK106.out 1).trans rfl;have hcz68_2 : w65.cell? ⟨gb106,2,none⟩ = some (.int .i64 x107002_27):=(bC_ BK106.out 2).trans rfl;have hfz68_0:=bF_ BK106.out 0;have hfz68_1:=bF_ BK106.out 1;have hfz68_2:=bF_ BK106.out 2;have hnb69:=NB105_0.out;have hnc69:=NB0_105.out;have hcz70_0 : w65.cell? ⟨gb105,0,none⟩ = some (.slice none 0 0):=(bC_ BK105.out 0).trans rfl;have hcz70_1 : w65.cell? ⟨gb105,1,none⟩ = some (.slice none 0 0):=(bC_ BK105.out 1).trans rfl;have hcz70_2 : w65.cell? ⟨gb105,2,none⟩ = some (.int .i64 x106002_27):=(bC_ BK105.out 2).trans rfl;have hfz70_0:=bF_ BK105.out 0;have hfz70_1:=bF_ BK105.out 1;have hfz70_2:=bF_ BK105.out 2))
           refine bodyPost_ret (results_ct rfl _ _ gb105 26 #[.slice Ao21 t113.length co21,.slice Ao33 x107001_2.length co33,.int .i64 x107002_27] (0,0) _ rfl (by (with_reducible repeat (first|refine bN_ ?_ _|refine bD_ ?_|refine bA_ ?_ _));refine blk_put (cs:=#[.slice Ao21 t113.length co21,.slice Ao33 x107001_2.length co33,.int .i64 x106002_27]) ?_ 2 _ rfl;(with_reducible repeat (first|refine bN_ ?_ _|refine bD_ ?_|refine bA_ ?_ _));refine blk_put (cs:=#[.slice Ao21 t113.length co21,.slice none 0 0,.int .i64 x106002_27]) ?_ 1 _ rfl;(with_reducible repeat (first|refine bN_ ?_ _|refine bD_ ?_|refine bA_ ?_ _));refine blk_put (cs:=#[.slice none 0 0,.slice none 0 0,.int .i64 x106002_27]) ?_ 0 _ rfl;(with_reducible repeat (first|refine bN_ ?_ _|refine bD_ ?_|refine bA_ ?_ _));exact BK105.out) Tryd.underlying26 rfl (by kernel_rfl)) rfl ?_
           exact ⟨_,_,by first|rfl|(simp [errW_none,errW_some] <;> rfl)|(simp [*,errW_none,errW_some] <;> rfl),by (with_reducible repeat (first|apply Kd.R_alloc|apply Kd.R_drewN|apply Kd.R_drew));exact Kd.R_mono (Kd.R_far (p:=⟨gb105,2,none⟩) (Kd.R_far (p:=⟨gb105,1,none⟩) (Kd.R_far (p:=⟨gb105,0,none⟩) (Kd.R_types HO_107000.out BK105.out (by decide)) (fun _ hk => hk.2) (.slice Ao21 t113.length co21)) (fun _ hk => hk.2) (.slice Ao33 x107001_2.length co33)) (fun _ hk => hk.2) (.int .i64 x107002_27)) (fun _ hk => trivial),by (with_reducible repeat (first|apply Kd.S_alloc|apply Kd.S_drewN|apply Kd.S_drew));exact Kd.S_mono (Kd.S_far (p:=⟨gb105,2,none⟩) (Kd.S_far (p:=⟨gb105,1,none⟩) (Kd.S_far (p:=⟨gb105,0,none⟩) (Kd.S_types HO_107001.out BK105.out (by decide)) (fun _ hk => hk.2) (.slice Ao21 t113.length co21)) (fun _ hk => hk.2) (.slice Ao33 x107001_2.length co33)) (fun _ hk => hk.2) (.int .i64 x107002_27)) (fun _ hk => hk.1.1),by repeat (first|(with_reducible first|exact HI0.out|apply IsS98.alloc|apply IsS98.drewN|apply IsS98.drew|apply IsS98.set_0|apply IsS98.set_1|apply IsS98.set_2|apply IsS98.set_3|refine IsS98.far ?_ NB0_105.out _|refine IsS98.far ?_ NB0_106.out _)|exact HI0.out),by repeat (first|(with_reducible first|exact HB.out|apply eA_|apply eN_|apply eD_|refine eS_ ?_ (IsS98.ge HI0.out)|refine eS_ ?_ GE105.out|refine eS_ ?_ GE106.out)|exact HB.out),by repeat (first|(with_reducible first|exact HK.out|apply KeepBut.set_|apply keep_drewN|apply keep_drew|apply keep_alloc|refine keep_far ?_ GW105.out _|refine keep_far ?_ GW106.out _)|exact HK.out)⟩
          ·rw [if_neg c63] at H
           have c63b0 : ((x107001_2.length : Int) == 512) = false:=beq_eq_false_iff_ne.mpr c63
           have c63b1 : ((x107001_2.length : Int) != 512) = true:=bne_iff_ne.mpr c63
           by_cases c71 : x107001_2.length < 5864062014805
           ·rw [if_pos c71] at H
            have LMc71:=A0_.mk c71
            clear c71
            obtain ⟨y139,hy139⟩ : ∃ y_ : List (List Bool),y_ = (x107001_2 ++ [t135]):=⟨_,rfl⟩
            replace H : ((stim_reader_skip.f x1000_27 x1001_27 x1002_27 x1003_27 t121).bind fun bt142 => (stim_reader_trace.l0 kj27 bt142.1 bt142.2.1 bt142.2.2.1 bt142.2.2.2 t113 y139 x107002_27)) = some (r1,r2,r3,r4,r5,r6,r7,r8):=by first|(rw [hy139];with_reducible exact H)|(have H2_:=(Option.bind_some _ _).symm.trans H;rw [hy139];with_reducible exact H2_)|(have H2_:=(Option.bind_some _ _).symm.trans H;with_reducible exact H2_)|with_reducible exact H|(rw [hy139];exact H)|exact H
            have Ny139:=A0_.mk hy139
            clear hy139
            replace H:=Option.bind_eq_some_iff.mp H
            obtain ⟨⟨t142,t143,t144,t145⟩,A720,H⟩:=H
            replace H : (stim_reader_trace.l0 kj27 t142 t143 t144 t145 t113 y139 x107002_27) = some (r1,r2,r3,r4,r5,r6,r7,r8):=H
            have A72:=A0_.mk A720
            clear A720
            have H':=A0_.mk H
            clear H
            obtain ⟨HGz73,hgz73⟩:=HI0.out
            have hcz73_0:=cellS98_0 HGz73
            have hcz73_1:=cellS98_1 HGz73
            have hcz73_2:=cellS98_2 HGz73
            have hcz73_3:=cellS98_3 HGz73
            have hfz73_0:=bF_ HGz73 0
            have hfz73_1:=bF_ HGz73 1
            have hfz73_2:=bF_ HGz73 2
            have hfz73_3:=bF_ HGz73 3
            clear HGz73 hgz73
            go_wp2_with (first|((with_reducible refine gate_callee (f:=95) rfl ?_);refine goesL_ (some 92) rfl rfl Tryd.func95 (by kernel_rfl) rfl #[.string t121,.int .i64 x1003_27] rfl (by (try simp only [List.map_toArray,List.map_cons,List.map_nil]);first|done|rfl|(simp only [List.length_drop,List.length_take];rfl)) ?_;(with_reducible refine (stim_row.calls t121 x1003_27 t135 true _ ?side1 A61.out).mono ?_);(case side1 => exact GV_below HG.out (by repeat (first|(with_reducible first|exact HB.out|apply eA_|apply eN_|apply eD_|refine eS_ ?_ (IsS98.ge HI0.out)|refine eS_ ?_ GE105.out|refine eS_ ?_ GE106.out)|exact HB.out)));rintro e w74 ⟨v137,rfl,ho0,hb⟩;refine ⟨_,rfl,?_⟩;have n0_:=A0_.mk (Kd.R_elder' (by (with_reducible repeat (first|apply Kd.R_alloc|apply Kd.R_drewN|apply Kd.R_drew));exact HO_107000.out) (Kd.R_base ho0) hb);have n1_:=A0_.mk (Kd.S_elder' (by (with_reducible repeat (first|apply Kd.S_alloc|apply Kd.S_drewN|apply Kd.S_drew));exact HO_107001.out) (Kd.R_base ho0) hb);have n2_:=A0_.mk (Kd.R_lower (Kd.R_new' ho0 (Kd.R_lt (by (with_reducible repeat (first|apply Kd.R_alloc|apply Kd.R_drewN|apply Kd.R_drew));exact HO_107000.out))) (keep_size (w:=w) (g:=g) (row:=none) (by repeat (first|(with_reducible first|exact HK.out|apply KeepBut.set_|apply keep_drewN|apply keep_drew|apply keep_alloc|refine keep_far ?_ GW105.out _|refine keep_far ?_ GW106.out _)|exact HK.out))));have n3_:=A0_.mk (blk_below (g:=gb105) (o:=.cells #[.slice none 0 0,.slice none 0 0,.int .i64 x106002_27] 26 (0,0)) (by (with_reducible repeat (first|refine bN_ ?_ _|refine bD_ ?_|refine bA_ ?_ _));exact BK105.out) hb);have n4_:=A0_.mk (blk_below (g:=gb106) (o:=.cells #[.slice Ao21 t113.length co21,.slice Ao33 x107001_2.length co33,.int .i64 x107002_27] 26 (0,0)) (by (with_reducible repeat (first|refine bN_ ?_ _|refine bD_ ?_|refine bA_ ?_ _));exact BK106.out) hb);have n5_:=A0_.mk (IsS98.below (by repeat (first|(with_reducible first|exact HI0.out|apply IsS98.alloc|apply IsS98.drewN|apply IsS98.drew|apply IsS98.set_0|apply IsS98.set_1|apply IsS98.set_2|apply IsS98.set_3|refine IsS98.far ?_ NB0_105.out _|refine IsS98.far ?_ NB0_106.out _)|exact HI0.out)) hb);have n6_:=A0_.mk (KeepBut.trans (by repeat (first|(with_reducible first|exact HK.out|apply KeepBut.set_|apply keep_drewN|apply keep_drew|apply keep_alloc|refine keep_far ?_ GW105.out _|refine keep_far ?_ GW106.out _)|exact HK.out)) (KeepBut.of_below hb g none) (.inl rfl));have n7_:=A0_.mk (below_step (by repeat (first|(with_reducible first|exact HB.out|apply eA_|apply eN_|apply eD_|refine eS_ ?_ (IsS98.ge HI0.out)|refine eS_ ?_ GE105.out|refine eS_ ?_ GE106.out)|exact HB.out)) hb);clear HO_107000;clear HO_107001;clear BK105;clear BK106;clear HI0;clear HK;clear HB;have HO_107000:=n0_;have HO_107001:=n1_;have HO138:=n2_;have BK105:=n3_;have BK106:=n4_;have HI0:=n5_;have HK:=n6_;have HB:=n7_;clear n0_ n1_ n2_ n3_ n4_ n5_ n6_ n7_;(try clear hb);(try clear hb2);(try clear hk);(try clear hi);(try clear ho0);have hnb75:=NB106_105.out;have hnc75:=NB105_106.out;have hnb76:=NB106_0.out;have hnc76:=NB0_106.out;have hcz77_0 : w74.cell? ⟨gb106,0,none⟩ = some (.slice Ao21 t113.length co21):=(bC_ BK106.out 0).trans rfl;have hcz77_1 : w74.cell? ⟨gb106,1,none⟩ = some (.slice Ao33 x107001_2.length co33):=(bC_ BK106.out 1).trans rfl;have hcz77_2 : w74.cell? ⟨gb106,2,none⟩ = some (.int .i64 x107002_27):=(bC_ BK106.out 2).trans rfl;have hfz77_0:=bF_ BK106.out 0;have hfz77_1:=bF_ BK106.out 1;have hfz77_2:=bF_ BK106.out 2;obtain ⟨Ao79,co79,eo79⟩:=Kd.R_slice HO138.out;subst eo79)|((with_reducible refine gate_builtin (b:=.append) (xs:=#[.tmp 105,.tmp 107]) rfl ?_);(try (refine gate_guard (by rfl) ?_;dsimp only));at_builtin;refine Kd.S_append (Kd.slice 4 Kd.bool) w.heap.size rfl (.tmp 105) (.tmp 107) 24 23 (.slice none 0 0) 24 rfl Tryd.underlying24 info23 rfl (by decide) (by omega) (.slice Ao33 x107001_2.length co33) x107001_2 t135 [.slice Ao79 t135.length co79] (fun k_ => some k_ ≠ (.slice Ao21 t113.length co21 : Value).ownBlock) (fun k_ => some k_ = (.slice Ao79 t135.length co79 : Value).ownBlock) rfl rfl ?aP (fun k_ hk_ => ((Kd.R_mono (ok':=fun k_ => ((fun k_ => some k_ ≠ (.slice Ao21 t113.length co21 : Value).ownBlock)) k_ ∧ some k_ ≠ (.slice Ao33 x107001_2.length co33 : Value).ownBlock) (Kd.R_apart' (HO138.out) (Kd.S_typed HO_107001.out) (by decide)) (fun k_ hk => ⟨hk.1.2,hk.2⟩))).1 k_ hk_.symm) ?aF ?aO (Below.refl _ _) ?aS ?aL ?_;(case aP => exact Kd.M_row (Kd.R_mono (Kd.R_tight rfl (Kd.R_mono (ok':=fun k_ => ((fun k_ => some k_ ≠ (.slice Ao21 t113.length co21 : Value).ownBlock)) k_ ∧ some k_ ≠ (.slice Ao33 x107001_2.length co33 : Value).ownBlock) (Kd.R_apart' (HO138.out) (Kd.S_typed HO_107001.out) (by decide)) (fun k_ hk => ⟨hk.1.2,hk.2⟩))) (fun _ h_ => h_)));(case aF => exact (fun k_ hk => Kd.fresh' (Kd.R_lt (by (with_reducible repeat (first|apply Kd.R_alloc|apply Kd.R_drewN|apply Kd.R_drew));exact HO_107000.out)) k_ hk));(case aO => exact (by (with_reducible repeat (first|apply Kd.S_alloc|apply Kd.S_drewN|apply Kd.S_drew));exact Kd.S_mono HO_107001.out (fun k_ hk => ⟨hk.1,fun e_ => hk.2 e_⟩)));(case aS => exact (keep_size (w:=w) (g:=g) (row:=none) (by repeat (first|(with_reducible first|exact HK.out|apply KeepBut.set_|apply keep_drewN|apply keep_drew|apply keep_alloc|refine keep_far ?_ GW105.out _|refine keep_far ?_ GW106.out _)|exact HK.out))));(case aL => have:=LMc71.out;omega);intro v140 w78 ho hb hg hat;rw [← Ny139.out] at ho;have n0_:=A0_.mk (Kd.R_over' (by (with_reducible repeat (first|apply Kd.R_alloc|apply Kd.R_drewN|apply Kd.R_drew));exact HO_107000.out) (Kd.S_typed (by (with_reducible repeat (first|apply Kd.S_alloc|apply Kd.S_drewN|apply Kd.S_drew));exact HO_107001.out)) (by decide) hg);have n1_:=A0_.mk (blk_grown (g:=gb105) (o:=.cells #[.slice none 0 0,.slice none 0 0,.int .i64 x106002_27] 26 (0,0)) (by (with_reducible repeat (first|refine bN_ ?_ _|refine bD_ ?_|refine bA_ ?_ _));exact BK105.out) hg (Kd.S_ne HO_107001.out BK105.out (by decide)));have n2_:=A0_.mk (blk_grown (g:=gb106) (o:=.cells #[.slice Ao21 t113.length co21,.slice Ao33 x107001_2.length co33,.int .i64 x107002_27] 26 (0,0)) (by (with_reducible repeat (first|refine bN_ ?_ _|refine bD_ ?_|refine bA_ ?_ _));exact BK106.out) hg (Kd.S_ne HO_107001.out BK106.out (by decide)));have n3_:=A0_.mk (IsS98.grown (by repeat (first|(with_reducible first|exact HI0.out|apply IsS98.alloc|apply IsS98.drewN|apply IsS98.drew|apply IsS98.set_0|apply IsS98.set_1|apply IsS98.set_2|apply IsS98.set_3|refine IsS98.far ?_ NB0_105.out _|refine IsS98.far ?_ NB0_106.out _)|exact HI0.out)) hg (IsS98.own_neS HI0.out HO_107001.out (by decide)));have n4_:=A0_.mk (below_weaken (by repeat (first|(with_reducible first|exact HB.out|apply eA_|apply eN_|apply eD_|refine eS_ ?_ (IsS98.ge HI0.out)|refine eS_ ?_ GE105.out|refine eS_ ?_ GE106.out)|exact HB.out)) HL.out hb);have n5_:=A0_.mk (KeepBut.trans (by repeat (first|(with_reducible first|exact HK.out|apply KeepBut.set_|apply keep_drewN|apply keep_drew|apply keep_alloc|refine keep_far ?_ GW105.out _|refine keep_far ?_ GW106.out _)|exact HK.out)) (KeepBut.of_grown hg g) (Kd.S_base2 HO_107001.out));have n6_:=A0_.mk (ho);clear HO_107000;clear BK105;clear BK106;clear HI0;clear HB;clear HK;clear HO_107001;clear HO138;have HO_107000:=n0_;have BK105:=n1_;have BK106:=n2_;have HI0:=n3_;have HB:=n4_;have HK:=n5_;have HO141:=n6_;clear n0_ n1_ n2_ n3_ n4_ n5_ n6_;clear ho hb hg hat;obtain ⟨Ao80,co80,eo80⟩:=Kd.S_slice HO141.out;subst eo80;have hcz81_0 : w78.cell? ⟨gb106,0,none⟩ = some (.slice Ao21 t113.length co21):=(bC_ BK106.out 0).trans rfl;have hcz81_1 : w78.cell? ⟨gb106,1,none⟩ = some (.slice Ao33 x107001_2.length co33):=(bC_ BK106.out 1).trans rfl;have hcz81_2 : w78.cell? ⟨gb106,2,none⟩ = some (.int .i64 x107002_27):=(bC_ BK106.out 2).trans rfl;have hfz81_0:=bF_ BK106.out 0;have hfz81_1:=bF_ BK106.out 1;have hfz81_2:=bF_ BK106.out 2)|((with_reducible refine gate_callee (f:=74) rfl ?_);refine goesL_ (some 112) rfl rfl Tryd.func74 (by kernel_rfl) rfl #[.pointer (some ⟨g,0,none⟩),.string t121] rfl (by (try simp only [List.map_toArray,List.map_cons,List.map_nil]);first|done|rfl|(simp only [List.length_drop,List.length_take];rfl)) ?_;(with_reducible refine (stim_reader_skip.calls g x1000_27 x1001_27 x1002_27 x1003_27 t121 t142 t143 t144 t145 w0 _ ?side1 ?side2 A72.out).mono ?_);(case side1 => repeat (first|(with_reducible first|exact HI0.out|apply IsS98.alloc|apply IsS98.drewN|apply IsS98.drew|apply IsS98.set_0|apply IsS98.set_1|apply IsS98.set_2|apply IsS98.set_3|refine IsS98.far ?_ NB0_105.out _|refine IsS98.far ?_ NB0_106.out _)|exact HI0.out));(case side2 => repeat (first|(with_reducible first|exact HB.out|apply eA_|apply eN_|apply eD_|refine eS_ ?_ (IsS98.ge HI0.out)|refine eS_ ?_ GE105.out|refine eS_ ?_ GE106.out)|exact HB.out));rintro e w82 ⟨rfl,hi,hb,hk⟩;refine ⟨_,rfl,?_⟩;have n0_:=A0_.mk (Kd.R_mono (Kd.R_keep (IsS98.apart (show IsS98 w0 _ g x1000_27 x1001_27 x1002_27 x1003_27 from by repeat (first|(with_reducible first|exact HI0.out|apply IsS98.alloc|apply IsS98.drewN|apply IsS98.drew|apply IsS98.set_0|apply IsS98.set_1|apply IsS98.set_2|apply IsS98.set_3|refine IsS98.far ?_ NB0_105.out _|refine IsS98.far ?_ NB0_106.out _)|exact HI0.out)) (by (with_reducible repeat (first|apply Kd.R_alloc|apply Kd.R_drewN|apply Kd.R_drew));exact (Kd.R_mono (Kd.R_far (p:=⟨gb106,1,none⟩) (Kd.R_types HO_107000.out BK106.out (by decide)) (fun _ hk => hk.2) (.slice Ao80 y139.length co80)) (fun _ h_ => h_.1))) (by decide)) hk (fun _ h => h.2)) (fun _ h => h.1));have n1_:=A0_.mk (KeepBut.blk hk (g':=gb105) (o:=.cells #[.slice none 0 0,.slice none 0 0,.int .i64 x106002_27] 26 (0,0)) (by (with_reducible repeat (first|refine bN_ ?_ _|refine bD_ ?_|refine bA_ ?_ _));refine blk_far ?_ NB105_106.out _;(with_reducible repeat (first|refine bN_ ?_ _|refine bD_ ?_|refine bA_ ?_ _));exact BK105.out) NB105_0.out (by simp));have n2_:=A0_.mk (KeepBut.blk hk (g':=gb106) (o:=.cells #[.slice Ao21 t113.length co21,.slice Ao80 y139.length co80,.int .i64 x107002_27] 26 (0,0)) (by (with_reducible repeat (first|refine bN_ ?_ _|refine bD_ ?_|refine bA_ ?_ _));refine blk_put (cs:=#[.slice Ao21 t113.length co21,.slice Ao33 x107001_2.length co33,.int .i64 x107002_27]) ?_ 1 _ rfl;(with_reducible repeat (first|refine bN_ ?_ _|refine bD_ ?_|refine bA_ ?_ _));exact BK106.out) NB106_0.out (by simp));have n3_:=A0_.mk (Kd.S_mono (Kd.S_keep (IsS98.apartS (show IsS98 w0 _ g x1000_27 x1001_27 x1002_27 x1003_27 from by repeat (first|(with_reducible first|exact HI0.out|apply IsS98.alloc|apply IsS98.drewN|apply IsS98.drew|apply IsS98.set_0|apply IsS98.set_1|apply IsS98.set_2|apply IsS98.set_3|refine IsS98.far ?_ NB0_105.out _|refine IsS98.far ?_ NB0_106.out _)|exact HI0.out)) (by (with_reducible repeat (first|apply Kd.S_alloc|apply Kd.S_drewN|apply Kd.S_drew));exact (Kd.S_mono (Kd.S_far (p:=⟨gb106,1,none⟩) (Kd.S_types HO141.out BK106.out (by decide)) (fun _ hk => hk.2) (.slice Ao80 y139.length co80)) (fun _ h_ => h_.1))) (by decide)) hk (fun _ h => h.2)) (fun _ h => h.1));have n4_:=A0_.mk (KeepBut.trans (by repeat (first|(with_reducible first|exact HK.out|apply KeepBut.set_|apply keep_drewN|apply keep_drew|apply keep_alloc|refine keep_far ?_ GW105.out _|refine keep_far ?_ GW106.out _)|exact HK.out)) hk (.inl rfl));have n5_:=A0_.mk (hb);have n6_:=A0_.mk (hi);clear HO_107000;clear BK105;clear BK106;clear HO141;clear HK;clear HB;clear HI0;have HO_107000:=n0_;have BK105:=n1_;have BK106:=n2_;have HO141:=n3_;have HK:=n4_;have HB:=n5_;have HI0:=n6_;clear n0_ n1_ n2_ n3_ n4_ n5_ n6_;(try clear hb);(try clear hb2);(try clear hk);(try clear hi)))
            go_roundg kj27
            case measure => have:=HJ3.out;have:=HK2.out;have:=HJ27.out;omega
            case rel => exact ⟨(t142),(t143),(t144),(t145),(x106002_27),(y139),(x107002_27),(.slice Ao80 y139.length co80),H',⟨by have:=HJ3.out;have:=HK2.out;have:=HJ27.out;omega⟩,⟨by (with_reducible repeat (first|apply Kd.R_alloc|apply Kd.R_drewN|apply Kd.R_drew));exact Kd.R_mono HO_107000.out (fun _ hk => trivial)⟩,⟨by (with_reducible repeat (first|apply Kd.S_alloc|apply Kd.S_drewN|apply Kd.S_drew));exact HO141.out⟩,⟨by (with_reducible repeat (first|refine bN_ ?_ _|refine bD_ ?_|refine bA_ ?_ _));exact BK105.out⟩,⟨by (with_reducible repeat (first|refine bN_ ?_ _|refine bD_ ?_|refine bA_ ?_ _));exact BK106.out⟩,⟨by repeat (first|(with_reducible first|exact HI0.out|apply IsS98.alloc|apply IsS98.drewN|apply IsS98.drew|apply IsS98.set_0|apply IsS98.set_1|apply IsS98.set_2|apply IsS98.set_3|refine IsS98.far ?_ NB0_105.out _|refine IsS98.far ?_ NB0_106.out _)|exact HI0.out)⟩,⟨by repeat (first|(with_reducible first|exact HK.out|apply KeepBut.set_|apply keep_drewN|apply keep_drew|apply keep_alloc|refine keep_far ?_ GW105.out _|refine keep_far ?_ GW106.out _)|exact HK.out)⟩,⟨by repeat (first|(with_reducible first|exact HB.out|apply eA_|apply eN_|apply eD_|refine eS_ ?_ (IsS98.ge HI0.out)|refine eS_ ?_ GE105.out|refine eS_ ?_ GE106.out)|exact HB.out)⟩⟩
           ·rw [if_neg c71] at H
            exact absurd H (by simp)
         ·replace c62:=Bool.eq_false_iff.mpr c62
          subst c62
          have H1 : (some (t113,x107001_2,x107002_27,false,x1000_27,x1001_27,x1002_27,x1003_27)) = some (r1,r2,r3,r4,r5,r6,r7,r8):=by rw [if_neg (show ¬ (false = true) by decide)] at H;exact H
          clear H
          have H:=H1
          clear H1
          simp only [Option.some.injEq,Prod.mk.injEq] at H
          obtain ⟨rfl,rfl,rfl,rfl,rfl,rfl,rfl,rfl⟩:=H
          obtain ⟨HGz83,hgz83⟩:=HI0.out
          have hcz83_0:=cellS98_0 HGz83
          have hcz83_1:=cellS98_1 HGz83
          have hcz83_2:=cellS98_2 HGz83
          have hcz83_3:=cellS98_3 HGz83
          have hfz83_0:=bF_ HGz83 0
          have hfz83_1:=bF_ HGz83 1
          have hfz83_2:=bF_ HGz83 2
          have hfz83_3:=bF_ HGz83 3
          clear HGz83 hgz83
          go_wp2_with (first|((with_reducible refine gate_callee (f:=95) rfl ?_);refine goesL_ (some 92) rfl rfl Tryd.func95 (by kernel_rfl) rfl #[.string t121,.int .i64 x1003_27] rfl (by (try simp only [List.map_toArray,List.map_cons,List.map_nil]);first|done|rfl|(simp only [List.length_drop,List.length_take];rfl)) ?_;(with_reducible refine (stim_row.calls t121 x1003_27 t135 false _ ?side1 A61.out).mono ?_);(case side1 => exact GV_below HG.out (by repeat (first|(with_reducible first|exact HB.out|apply eA_|apply eN_|apply eD_|refine eS_ ?_ (IsS98.ge HI0.out)|refine eS_ ?_ GE105.out|refine eS_ ?_ GE106.out)|exact HB.out)));rintro e w84 ⟨v137,rfl,ho0,hb⟩;refine ⟨_,rfl,?_⟩;have n0_:=A0_.mk (Kd.R_elder' (by (with_reducible repeat (first|apply Kd.R_alloc|apply Kd.R_drewN|apply Kd.R_drew));exact HO_107000.out) (Kd.R_base ho0) hb);have n1_:=A0_.mk (Kd.S_elder' (by (with_reducible repeat (first|apply Kd.S_alloc|apply Kd.S_drewN|apply Kd.S_drew));exact HO_107001.out) (Kd.R_base ho0) hb);have n2_:=A0_.mk (Kd.R_lower (Kd.R_new' ho0 (Kd.R_lt (by (with_reducible repeat (first|apply Kd.R_alloc|apply Kd.R_drewN|apply Kd.R_drew));exact HO_107000.out))) (keep_size (w:=w) (g:=g) (row:=none) (by repeat (first|(with_reducible first|exact HK.out|apply KeepBut.set_|apply keep_drewN|apply keep_drew|apply keep_alloc|refine keep_far ?_ GW105.out _|refine keep_far ?_ GW106.out _)|exact HK.out))));have n3_:=A0_.mk (blk_below (g:=gb105) (o:=.cells #[.slice none 0 0,.slice none 0 0,.int .i64 x106002_27] 26 (0,0)) (by (with_reducible repeat (first|refine bN_ ?_ _|refine bD_ ?_|refine bA_ ?_ _));exact BK105.out) hb);have n4_:=A0_.mk (blk_below (g:=gb106) (o:=.cells #[.slice Ao21 t113.length co21,.slice Ao33 x107001_2.length co33,.int .i64 x107002_27] 26 (0,0)) (by (with_reducible repeat (first|refine bN_ ?_ _|refine bD_ ?_|refine bA_ ?_ _));exact BK106.out) hb);have n5_:=A0_.mk (IsS98.below (by repeat (first|(with_reducible first|exact HI0.out|apply IsS98.alloc|apply IsS98.drewN|apply IsS98.drew|apply IsS98.set_0|apply IsS98.set_1|apply IsS98.set_2|apply IsS98.set_3|refine IsS98.far ?_ NB0_105.out _|refine IsS98.far ?_ NB0_106.out _)|exact HI0.out)) hb);have n6_:=A0_.mk (KeepBut.trans (by repeat (first|(with_reducible first|exact HK.out|apply KeepBut.set_|apply keep_drewN|apply keep_drew|apply keep_alloc|refine keep_far ?_ GW105.out _|refine keep_far ?_ GW106.out _)|exact HK.out)) (KeepBut.of_below hb g none) (.inl rfl));have n7_:=A0_.mk (below_step (by repeat (first|(with_reducible first|exact HB.out|apply eA_|apply eN_|apply eD_|refine eS_ ?_ (IsS98.ge HI0.out)|refine eS_ ?_ GE105.out|refine eS_ ?_ GE106.out)|exact HB.out)) hb);clear HO_107000;clear HO_107001;clear BK105;clear BK106;clear HI0;clear HK;clear HB;have HO_107000:=n0_;have HO_107001:=n1_;have HO138:=n2_;have BK105:=n3_;have BK106:=n4_;have HI0:=n5_;have HK:=n6_;have HB:=n7_;clear n0_ n1_ n2_ n3_ n4_ n5_ n6_ n7_;(try clear hb);(try clear hb2);(try clear hk);(try clear hi);(try clear ho0);have hnb85:=NB106_105.out;have hnc85:=NB105_106.out;have hnb86:=NB106_0.out;have hnc86:=NB0_106.out;have hcz87_0 : w84.cell? ⟨gb106,0,none⟩ = some (.slice Ao21 t113.length co21):=(bC_ BK106.out 0).trans rfl;have hcz87_1 : w84.cell? ⟨gb106,1,none⟩ = some (.slice Ao33 x107001_2.length co33):=(bC_ BK106.out 1).trans rfl;have hcz87_2 : w84.cell? ⟨gb106,2,none⟩ = some (.int .i64 x107002_27):=(bC_ BK106.out 2).trans rfl;have hfz87_0:=bF_ BK106.out 0;have hfz87_1:=bF_ BK106.out 1;have hfz87_2:=bF_ BK106.out 2;have hnb88:=NB105_0.out;have hnc88:=NB0_105.out;have hcz89_0 : w84.cell? ⟨gb105,0,none⟩ = some (.slice none 0 0):=(bC_ BK105.out 0).trans rfl;have hcz89_1 : w84.cell? ⟨gb105,1,none⟩ = some (.slice none 0 0):=(bC_ BK105.out 1).trans rfl;have hcz89_2 : w84.cell? ⟨gb105,2,none⟩ = some (.int .i64 x106002_27):=(bC_ BK105.out 2).trans rfl;have hfz89_0:=bF_ BK105.out 0;have hfz89_1:=bF_ BK105.out 1;have hfz89_2:=bF_ BK105.out 2))
          refine bodyPost_ret (results_ct rfl _ _ gb105 26 #[.slice Ao21 t113.length co21,.slice Ao33 x107001_2.length co33,.int .i64 x107002_27] (0,0) _ rfl (by (with_reducible repeat (first|refine bN_ ?_ _|refine bD_ ?_|refine bA_ ?_ _));refine blk_put (cs:=#[.slice Ao21 t113.length co21,.slice Ao33 x107001_2.length co33,.int .i64 x106002_27]) ?_ 2 _ rfl;(with_reducible repeat (first|refine bN_ ?_ _|refine bD_ ?_|refine bA_ ?_ _));refine blk_put (cs:=#[.slice Ao21 t113.length co21,.slice none 0 0,.int .i64 x106002_27]) ?_ 1 _ rfl;(with_reducible repeat (first|refine bN_ ?_ _|refine bD_ ?_|refine bA_ ?_ _));refine blk_put (cs:=#[.slice none 0 0,.slice none 0 0,.int .i64 x106002_27]) ?_ 0 _ rfl;(with_reducible repeat (first|refine bN_ ?_ _|refine bD_ ?_|refine bA_ ?_ _));exact BK105.out) Tryd.underlying26 rfl (by kernel_rfl)) rfl ?_
          exact ⟨_,_,by first|rfl|(simp [errW_none,errW_some] <;> rfl)|(simp [*,errW_none,errW_some] <;> rfl),by (with_reducible repeat (first|apply Kd.R_alloc|apply Kd.R_drewN|apply Kd.R_drew));exact Kd.R_mono (Kd.R_far (p:=⟨gb105,2,none⟩) (Kd.R_far (p:=⟨gb105,1,none⟩) (Kd.R_far (p:=⟨gb105,0,none⟩) (Kd.R_types HO_107000.out BK105.out (by decide)) (fun _ hk => hk.2) (.slice Ao21 t113.length co21)) (fun _ hk => hk.2) (.slice Ao33 x107001_2.length co33)) (fun _ hk => hk.2) (.int .i64 x107002_27)) (fun _ hk => trivial),by (with_reducible repeat (first|apply Kd.S_alloc|apply Kd.S_drewN|apply Kd.S_drew));exact Kd.S_mono (Kd.S_far (p:=⟨gb105,2,none⟩) (Kd.S_far (p:=⟨gb105,1,none⟩) (Kd.S_far (p:=⟨gb105,0,none⟩) (Kd.S_types HO_107001.out BK105.out (by decide)) (fun _ hk => hk.2) (.slice Ao21 t113.length co21)) (fun _ hk => hk.2) (.slice Ao33 x107001_2.length co33)) (fun _ hk => hk.2) (.int .i64 x107002_27)) (fun _ hk => hk.1.1),by repeat (first|(with_reducible first|exact HI0.out|apply IsS98.alloc|apply IsS98.drewN|apply IsS98.drew|apply IsS98.set_0|apply IsS98.set_1|apply IsS98.set_2|apply IsS98.set_3|refine IsS98.far ?_ NB0_105.out _|refine IsS98.far ?_ NB0_106.out _)|exact HI0.out),by repeat (first|(with_reducible first|exact HB.out|apply eA_|apply eN_|apply eD_|refine eS_ ?_ (IsS98.ge HI0.out)|refine eS_ ?_ GE105.out|refine eS_ ?_ GE106.out)|exact HB.out),by repeat (first|(with_reducible first|exact HK.out|apply KeepBut.set_|apply keep_drewN|apply keep_drew|apply keep_alloc|refine keep_far ?_ GW105.out _|refine keep_far ?_ GW106.out _)|exact HK.out)⟩
      ·replace c27:=Bool.eq_false_iff.mpr c27
       subst c27
       have H1 : (some (t113,x107001_2,x107002_2,false,t123,t124,t125,t126)) = some (r1,r2,r3,r4,r5,r6,r7,r8):=by rw [if_neg (show ¬ (false = true) by decide)] at H;exact H
       clear H
       have H:=H1
       clear H1
       simp only [Option.some.injEq,Prod.mk.injEq] at H
       obtain ⟨rfl,rfl,rfl,rfl,rfl,rfl,rfl,rfl⟩:=H
       go_wp2_with (first|((with_reducible refine gate_callee (f:=73) rfl ?_);refine goesL_ (some 46) rfl rfl Tryd.func73 (by kernel_rfl) rfl #[.pointer (some ⟨g,0,none⟩)] rfl (by (try simp only [List.map_toArray,List.map_cons,List.map_nil]);first|done|rfl|(simp only [List.length_drop,List.length_take];rfl)) ?_;(with_reducible refine (stim_reader_line.calls g x1000_2 x1001_2 x1002_2 x1003_2 t121 false t123 t124 t125 t126 w0 _ ?side3 ?side1 ?side2 A26.out).mono ?_);(case side1 => repeat (first|(with_reducible first|exact HI0.out|apply IsS98.alloc|apply IsS98.drewN|apply IsS98.drew|apply IsS98.set_0|apply IsS98.set_1|apply IsS98.set_2|apply IsS98.set_3|refine IsS98.far ?_ NB0_105.out _|refine IsS98.far ?_ NB0_106.out _)|exact HI0.out));(case side2 => repeat (first|(with_reducible first|exact HB.out|apply eA_|apply eN_|apply eD_|refine eS_ ?_ (IsS98.ge HI0.out)|refine eS_ ?_ GE105.out|refine eS_ ?_ GE106.out)|exact HB.out));(case side3 => exact HG.out);rintro e w90 ⟨rfl,hi,hb,hk⟩;refine ⟨_,rfl,?_⟩;have n0_:=A0_.mk (Kd.R_mono (Kd.R_keep (IsS98.apart (show IsS98 w0 _ g x1000_2 x1001_2 x1002_2 x1003_2 from by repeat (first|(with_reducible first|exact HI0.out|apply IsS98.alloc|apply IsS98.drewN|apply IsS98.drew|apply IsS98.set_0|apply IsS98.set_1|apply IsS98.set_2|apply IsS98.set_3|refine IsS98.far ?_ NB0_105.out _|refine IsS98.far ?_ NB0_106.out _)|exact HI0.out)) (by (with_reducible repeat (first|apply Kd.R_alloc|apply Kd.R_drewN|apply Kd.R_drew));exact HO_107000.out) (by decide)) hk (fun _ h => h.2)) (fun _ h => h.1));have n1_:=A0_.mk (Kd.S_mono (Kd.S_keep (IsS98.apartS (show IsS98 w0 _ g x1000_2 x1001_2 x1002_2 x1003_2 from by repeat (first|(with_reducible first|exact HI0.out|apply IsS98.alloc|apply IsS98.drewN|apply IsS98.drew|apply IsS98.set_0|apply IsS98.set_1|apply IsS98.set_2|apply IsS98.set_3|refine IsS98.far ?_ NB0_105.out _|refine IsS98.far ?_ NB0_106.out _)|exact HI0.out)) (by (with_reducible repeat (first|apply Kd.S_alloc|apply Kd.S_drewN|apply Kd.S_drew));exact HO_107001.out) (by decide)) hk (fun _ h => h.2)) (fun _ h => h.1));have n2_:=A0_.mk (KeepBut.blk hk (g':=gb105) (o:=.cells #[.slice none 0 0,.slice none 0 0,.int .i64 x106002_2] 26 (0,0)) (by (with_reducible repeat (first|refine bN_ ?_ _|refine bD_ ?_|refine bA_ ?_ _));exact BK105.out) NB105_0.out (by simp));have n3_:=A0_.mk (KeepBut.blk hk (g':=gb106) (o:=.cells #[.slice Ao21 t113.length co21,u107001,.int .i64 x107002_2] 26 (0,0)) (by (with_reducible repeat (first|refine bN_ ?_ _|refine bD_ ?_|refine bA_ ?_ _));exact BK106.out) NB106_0.out (by simp));have n4_:=A0_.mk (KeepBut.trans (by repeat (first|(with_reducible first|exact HK.out|apply KeepBut.set_|apply keep_drewN|apply keep_drew|apply keep_alloc|refine keep_far ?_ GW105.out _|refine keep_far ?_ GW106.out _)|exact HK.out)) hk (.inl rfl));have n5_:=A0_.mk (hb);have n6_:=A0_.mk (hi);clear HO_107000;clear HO_107001;clear BK105;clear BK106;clear HK;clear HB;clear HI0;have HO_107000:=n0_;have HO_107001:=n1_;have BK105:=n2_;have BK106:=n3_;have HK:=n4_;have HB:=n5_;have HI0:=n6_;clear n0_ n1_ n2_ n3_ n4_ n5_ n6_;(try clear hb);(try clear hb2);(try clear hk);(try clear hi);have hnb91:=NB106_105.out;have hnc91:=NB105_106.out;have hnb92:=NB106_0.out;have hnc92:=NB0_106.out;have hcz93_0 : w90.cell? ⟨gb106,0,none⟩ = some (.slice Ao21 t113.length co21):=(bC_ BK106.out 0).trans rfl;have hcz93_1 : w90.cell? ⟨gb106,1,none⟩ = some (u107001):=(bC_ BK106.out 1).trans rfl;have hcz93_2 : w90.cell? ⟨gb106,2,none⟩ = some (.int .i64 x107002_2):=(bC_ BK106.out 2).trans rfl;have hfz93_0:=bF_ BK106.out 0;have hfz93_1:=bF_ BK106.out 1;have hfz93_2:=bF_ BK106.out 2;have hnb94:=NB105_0.out;have hnc94:=NB0_105.out;have hcz95_0 : w90.cell? ⟨gb105,0,none⟩ = some (.slice none 0 0):=(bC_ BK105.out 0).trans rfl;have hcz95_1 : w90.cell? ⟨gb105,1,none⟩ = some (.slice none 0 0):=(bC_ BK105.out 1).trans rfl;have hcz95_2 : w90.cell? ⟨gb105,2,none⟩ = some (.int .i64 x106002_2):=(bC_ BK105.out 2).trans rfl;have hfz95_0:=bF_ BK105.out 0;have hfz95_1:=bF_ BK105.out 1;have hfz95_2:=bF_ BK105.out 2;obtain ⟨Ao96,co96,eo96⟩:=Kd.S_slice HO_107001.out;subst eo96))
       refine bodyPost_ret (results_ct rfl _ _ gb105 26 #[.slice Ao21 t113.length co21,.slice Ao96 x107001_2.length co96,.int .i64 x107002_2] (0,0) _ rfl (by (with_reducible repeat (first|refine bN_ ?_ _|refine bD_ ?_|refine bA_ ?_ _));refine blk_put (cs:=#[.slice Ao21 t113.length co21,.slice Ao96 x107001_2.length co96,.int .i64 x106002_2]) ?_ 2 _ rfl;(with_reducible repeat (first|refine bN_ ?_ _|refine bD_ ?_|refine bA_ ?_ _));refine blk_put (cs:=#[.slice Ao21 t113.length co21,.slice none 0 0,.int .i64 x106002_2]) ?_ 1 _ rfl;(with_reducible repeat (first|refine bN_ ?_ _|refine bD_ ?_|refine bA_ ?_ _));refine blk_put (cs:=#[.slice none 0 0,.slice none 0 0,.int .i64 x106002_2]) ?_ 0 _ rfl;(with_reducible repeat (first|refine bN_ ?_ _|refine bD_ ?_|refine bA_ ?_ _));exact BK105.out) Tryd.underlying26 rfl (by kernel_rfl)) rfl ?_
       exact ⟨_,_,by first|rfl|(simp [errW_none,errW_some] <;> rfl)|(simp [*,errW_none,errW_some] <;> rfl),by (with_reducible repeat (first|apply Kd.R_alloc|apply Kd.R_drewN|apply Kd.R_drew));exact Kd.R_mono (Kd.R_far (p:=⟨gb105,2,none⟩) (Kd.R_far (p:=⟨gb105,1,none⟩) (Kd.R_far (p:=⟨gb105,0,none⟩) (Kd.R_types HO_107000.out BK105.out (by decide)) (fun _ hk => hk.2) (.slice Ao21 t113.length co21)) (fun _ hk => hk.2) (.slice Ao96 x107001_2.length co96)) (fun _ hk => hk.2) (.int .i64 x107002_2)) (fun _ hk => trivial),by (with_reducible repeat (first|apply Kd.S_alloc|apply Kd.S_drewN|apply Kd.S_drew));exact Kd.S_mono (Kd.S_far (p:=⟨gb105,2,none⟩) (Kd.S_far (p:=⟨gb105,1,none⟩) (Kd.S_far (p:=⟨gb105,0,none⟩) (Kd.S_types HO_107001.out BK105.out (by decide)) (fun _ hk => hk.2) (.slice Ao21 t113.length co21)) (fun _ hk => hk.2) (.slice Ao96 x107001_2.length co96)) (fun _ hk => hk.2) (.int .i64 x107002_2)) (fun _ hk => hk.1),by repeat (first|(with_reducible first|exact HI0.out|apply IsS98.alloc|apply IsS98.drewN|apply IsS98.drew|apply IsS98.set_0|apply IsS98.set_1|apply IsS98.set_2|apply IsS98.set_3|refine IsS98.far ?_ NB0_105.out _|refine IsS98.far ?_ NB0_106.out _)|exact HI0.out),by repeat (first|(with_reducible first|exact HB.out|apply eA_|apply eN_|apply eD_|refine eS_ ?_ (IsS98.ge HI0.out)|refine eS_ ?_ GE105.out|refine eS_ ?_ GE106.out)|exact HB.out),by repeat (first|(with_reducible first|exact HK.out|apply KeepBut.set_|apply keep_drewN|apply keep_drew|apply keep_alloc|refine keep_far ?_ GW105.out _|refine keep_far ?_ GW106.out _)|exact HK.out)⟩
end Go.Proofs.YtojepjkpnponoaaDoor.Stim

