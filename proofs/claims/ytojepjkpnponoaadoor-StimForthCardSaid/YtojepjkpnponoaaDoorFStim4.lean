import Derived.Test.YtojepjkpnponoaaDoorFStim0
import Derived.Test.YtojepjkpnponoaaDoorFStim3
import Derived.Test.YtojepjkpnponoaaDoorFGV
import Derived.Test.YtojepjkpnponoaaDoorFGLine
import Derived.Test.YtojepjkpnponoaaDoorFGProperties
namespace Go.Proofs.YtojepjkpnponoaaDoor.Stim
open Go.RowKit Go.Proofs.YtojepjkpnponoaaDoorW.PrintWords Go.Proofs.YtojepjkpnponoaaDoorW.PrintLast Go.Proofs.YtojepjkpnponoaaDoorW.PrintMore
attribute [local go_sem] max2_int min2_int max_two min_two max_three min_three max_four min_four
set_option linter.unusedVariables false
set_option linter.unusedSimpArgs false
mutual
def stim_reader_one.j0 : Nat → ByteArray → Bool → ByteArray → Int → Int → Int → Option (Int × (List (S83)) × List Bool × (List (List Bool)) × Int × Int × Int × ByteArray × Int × Int × Int)
 |0,_,_,_,_,_,_ => none
 |k + 1,x4,x27,x1000,x1001,x1002,x1003 => if x27 = true then ((stim_reader_wrong.f x1000 x1001 x1002 x1003 120).bind fun bt154 => (some (0,([] : List (S83)),([] : List Bool),([] : List (List Bool)),0,bt154.1,bt154.2.1,bt154.2.2.1,bt154.2.2.2.1,bt154.2.2.2.2.1,bt154.2.2.2.2.2))) else (if 0 < (x4.size : Int) then ((stim_reader_skip.f x1000 x1001 x1002 x1003 x4).bind fun bt161 => ((stim_reader_line.f bt161.1 bt161.2.1 bt161.2.2.1 bt161.2.2.2).bind fun bt165 => ((stim_properties.f bt165.1).bind fun bt171 => (if bt165.2.1 = true then (stim_reader_one.j1 k bt165.1 bt171.1 (!bt171.2) bt165.2.2.1 bt165.2.2.2.1 bt165.2.2.2.2.1 bt165.2.2.2.2.2 (((bt x4 0) - 48) % 256) 0) else (stim_reader_one.j1 k bt165.1 bt171.1 true bt165.2.2.1 bt165.2.2.2.1 bt165.2.2.2.2.1 bt165.2.2.2.2.2 (((bt x4 0) - 48) % 256) 0))))) else (none))
def stim_reader_one.j1 : Nat → ByteArray → List (S83) → Bool → ByteArray → Int → Int → Int → Int → Int → Option (Int × (List (S83)) × List Bool × (List (List Bool)) × Int × Int × Int × ByteArray × Int × Int × Int)
 |0,_,_,_,_,_,_,_,_,_ => none
 |k + 1,x4,x7,x54,x1000,x1001,x1002,x1003,x161000,x161004 => if x54 = true then ((stim_reader_wrong.f x1000 x1001 x1002 x1003 121).bind fun bt175 => (some (0,([] : List (S83)),([] : List Bool),([] : List (List Bool)),0,bt175.1,bt175.2.1,bt175.2.2.1,bt175.2.2.2.1,bt175.2.2.2.2.1,bt175.2.2.2.2.2))) else ((stim_reader_skip.f x1000 x1001 x1002 x1003 x4).bind fun bt181 => (if x161000 = 1 then ((stim_reader_trace.f k bt181.1 bt181.2.1 bt181.2.2.1 bt181.2.2.2).bind fun bt185 => (if bt185.2.2.2.1 = true then (stim_reader_one.j2 k bt185.2.2.2.2.1 bt185.2.2.2.2.2.1 bt185.2.2.2.2.2.2.1 bt185.2.2.2.2.2.2.2 x161000 x7 bt185.1 bt185.2.1 bt185.2.2.1) else ((stim_reader_wrong.f bt185.2.2.2.2.1 bt185.2.2.2.2.2.1 bt185.2.2.2.2.2.2.1 bt185.2.2.2.2.2.2.2 3).bind fun bt197 => (some (0,([] : List (S83)),([] : List Bool),([] : List (List Bool)),0,bt197.1,bt197.2.1,bt197.2.2.1,bt197.2.2.2.1,bt197.2.2.2.2.1,bt197.2.2.2.2.2))))) else (stim_reader_one.j2 k bt181.1 bt181.2.1 bt181.2.2.1 bt181.2.2.2 x161000 x7 ([] : List Bool) ([] : List (List Bool)) x161004)))
def stim_reader_one.j2 : Nat → ByteArray → Int → Int → Int → Int → List (S83) → List Bool → List (List Bool) → Int → Option (Int × (List (S83)) × List Bool × (List (List Bool)) × Int × Int × Int × ByteArray × Int × Int × Int)
 |0,_,_,_,_,_,_,_,_,_ => none
 |k + 1,x1000,x1001,x1002,x1003,x161000,x161001,x161002,x161003,x161004 => (stim_reader_line.f x1000 x1001 x1002 x1003).bind fun bt203 => (if bt203.2.1 = true then (stim_reader_one.j3 k bt203.1 (bt203.1.toList != ([46] : List UInt8)) bt203.2.2.1 bt203.2.2.2.1 bt203.2.2.2.2.1 bt203.2.2.2.2.2 x161000 x161001 x161002 x161003 x161004) else (stim_reader_one.j3 k bt203.1 true bt203.2.2.1 bt203.2.2.2.1 bt203.2.2.2.2.1 bt203.2.2.2.2.2 x161000 x161001 x161002 x161003 x161004))
def stim_reader_one.j3 : Nat → ByteArray → Bool → ByteArray → Int → Int → Int → Int → List (S83) → List Bool → List (List Bool) → Int → Option (Int × (List (S83)) × List Bool × (List (List Bool)) × Int × Int × Int × ByteArray × Int × Int × Int)
 |0,_,_,_,_,_,_,_,_,_,_,_ => none
 |k + 1,x4,x87,x1000,x1001,x1002,x1003,x161000,x161001,x161002,x161003,x161004 => if x87 = true then ((stim_reader_wrong.f x1000 x1001 x1002 x1003 3).bind fun bt209 => (some (0,([] : List (S83)),([] : List Bool),([] : List (List Bool)),0,bt209.1,bt209.2.1,bt209.2.2.1,bt209.2.2.2.1,bt209.2.2.2.2.1,bt209.2.2.2.2.2))) else ((stim_reader_skip.f x1000 x1001 x1002 x1003 x4).bind fun bt215 => (some (x161000,x161001,x161002,x161003,x161004,0,0,bt215.1,bt215.2.1,bt215.2.2.1,bt215.2.2.2)))
end
def stim_reader_one.f (k : Nat) (s0_0 : ByteArray) (s0_1 : Int) (s0_2 : Int) (s0_3 : Int) : Option (Int × (List (S83)) × List Bool × (List (List Bool)) × Int × Int × Int × ByteArray × Int × Int × Int):=(stim_reader_line.f s0_0 s0_1 s0_2 s0_3).bind fun bt148 => (if bt148.2.1 = true then (if bt148.1.toList = ([48] : List UInt8) then (stim_reader_one.j0 k bt148.1 false bt148.2.2.1 bt148.2.2.2.1 bt148.2.2.2.2.1 bt148.2.2.2.2.2) else (if bt148.1.toList = ([49] : List UInt8) then (stim_reader_one.j0 k bt148.1 false bt148.2.2.1 bt148.2.2.2.1 bt148.2.2.2.2.1 bt148.2.2.2.2.2) else (stim_reader_one.j0 k bt148.1 (bt148.1.toList != ([50] : List UInt8)) bt148.2.2.1 bt148.2.2.2.1 bt148.2.2.2.2.1 bt148.2.2.2.2.2))) else (stim_reader_one.j0 k bt148.1 true bt148.2.2.1 bt148.2.2.2.1 bt148.2.2.2.2.1 bt148.2.2.2.2.2))
set_option maxHeartbeats 8000000 in
set_option maxRecDepth 100000 in
theorem stim_reader_one.calls (k : Nat) (g : Nat) (s0_0 : ByteArray) (s0_1 : Int) (s0_2 : Int) (s0_3 : Int) (r1 : Int) (r2 : List (S83)) (r3 : List Bool) (r4 : List (List Bool)) (r5 : Int) (r6 : Int) (r7 : Int) (r8 : ByteArray) (r9 : Int) (r10 : Int) (r11 : Int) (w0 w : World) (hG : GV w0) (hI : IsS98 w0 w g s0_0 s0_1 s0_2 s0_3) (hB : Below w0.heap.size w0 w) (h : stim_reader_one.f k s0_0 s0_1 s0_2 s0_3 = some (r1,r2,r3,r4,r5,r6,r7,r8,r9,r10,r11)) :
  Calls Tryd.prog 47 #[.pointer (some ⟨g,0,none⟩)] w fun e w' => ∃ v1_ v2_ v3_ : Value,e = .returned (.tuple #[.agg #[.int .i64 r1,v1_,v2_,v3_,.int .i64 r5],.agg #[.int .i64 r6,.int .i64 r7]]) ∧ Kd.R k83 83 w' w.heap.size (fun _ => True) v1_ r2 ∧ Kd.R Kd.bool 4 w' w.heap.size (fun _ => True) v2_ r3 ∧ Kd.S (Kd.slice 4 Kd.bool) 23 w' w.heap.size (fun k_ => some k_ ≠ (v2_ : Value).ownBlock) v3_ r4 ∧ IsS98 w0 w' g r8 r9 r10 r11 ∧ Below w0.heap.size w0 w' ∧ KeepBut w w' g none:=by
 have hu28:=Tryd.underlying28
 have hu40:=Tryd.underlying40
 have hu26:=Tryd.underlying26
 have HI0:=A0_.mk hI
 have HK:=A0_.mk (KeepBut.refl w g none)
 have HL:=A0_.mk hB.size
 clear hI
 have HG:=A0_.mk hG
 clear hG
 have HW0:=A0_.mk hB.size
 have HB:=A0_.mk hB
 clear hB
 have H : ((stim_reader_line.f s0_0 s0_1 s0_2 s0_3).bind fun bt148 => (if bt148.2.1 = true then (if bt148.1.toList = ([48] : List UInt8) then (stim_reader_one.j0 k bt148.1 false bt148.2.2.1 bt148.2.2.2.1 bt148.2.2.2.2.1 bt148.2.2.2.2.2) else (if bt148.1.toList = ([49] : List UInt8) then (stim_reader_one.j0 k bt148.1 false bt148.2.2.1 bt148.2.2.2.1 bt148.2.2.2.2.1 bt148.2.2.2.2.2) else (stim_reader_one.j0 k bt148.1 (bt148.1.toList != ([50] : List UInt8)) bt148.2.2.1 bt148.2.2.2.1 bt148.2.2.2.2.1 bt148.2.2.2.2.2))) else (stim_reader_one.j0 k bt148.1 true bt148.2.2.1 bt148.2.2.2.1 bt148.2.2.2.2.1 bt148.2.2.2.2.2))) = some (r1,r2,r3,r4,r5,r6,r7,r8,r9,r10,r11):=h
 clear h
 replace H:=Option.bind_eq_some_iff.mp H
 obtain ⟨⟨t148,t149,t150,t151,t152,t153⟩,A20,H⟩:=H
 replace H : (if t149 = true then (if t148.toList = ([48] : List UInt8) then (stim_reader_one.j0 k t148 false t150 t151 t152 t153) else (if t148.toList = ([49] : List UInt8) then (stim_reader_one.j0 k t148 false t150 t151 t152 t153) else (stim_reader_one.j0 k t148 (t148.toList != ([50] : List UInt8)) t150 t151 t152 t153))) else (stim_reader_one.j0 k t148 true t150 t151 t152 t153)) = some (r1,r2,r3,r4,r5,r6,r7,r8,r9,r10,r11):=H
 have A2:=A0_.mk A20
 clear A20
 have HC3:=A0_.mk H
 clear H
 go_enter Tryd.func47,Tryd.ntmps47
 go_upto_region 2 with (first|((with_reducible refine gate_dst (N:=2) rfl ?_);refine box_event ?hg (N:=2) ?hd (cs:=#[.int .i64 0,.slice none 0 0,.slice none 0 0,.slice none 0 0,.int .i64 0]) (t:=28) ?hr ?_;(case hd => rfl);(case hg => rfl);(case hr => first|(go_simp;done)|(go_simp;rfl));intro gb146 hg w4 hbox hb;have n0_:=A0_.mk (IsS98.below (by repeat (first|(with_reducible first|exact HI0.out|apply IsS98.alloc|apply IsS98.drewN|apply IsS98.drew|apply IsS98.set_0|apply IsS98.set_1|apply IsS98.set_2|apply IsS98.set_3)|exact HI0.out)) hb);have n1_:=A0_.mk (KeepBut.trans (by repeat (first|(with_reducible first|exact HK.out|apply KeepBut.set_|apply keep_drewN|apply keep_drew|apply keep_alloc)|exact HK.out)) (KeepBut.of_below hb g none) (.inl rfl));have n2_:=A0_.mk (below_step (by repeat (first|(with_reducible first|exact HB.out|apply eA_|apply eN_|apply eD_|refine eS_ ?_ (IsS98.ge HI0.out))|exact HB.out)) hb);have n3_:=A0_.mk (hbox);have n4_:=A0_.mk ((by rw [hg];exact (keep_size (w:=w) (g:=g) (row:=none) (by repeat (first|(with_reducible first|exact HK.out|apply KeepBut.set_|apply keep_drewN|apply keep_drew|apply keep_alloc)|exact HK.out))) : w.heap.size ≤ gb146));have n5_:=A0_.mk ((Nat.le_trans HW0.out (by rw [hg];exact (keep_size (w:=w) (g:=g) (row:=none) (by repeat (first|(with_reducible first|exact HK.out|apply KeepBut.set_|apply keep_drewN|apply keep_drew|apply keep_alloc)|exact HK.out))) : w.heap.size ≤ gb146) : w0.heap.size ≤ gb146));have n6_:=A0_.mk ((by rw [hg];exact Nat.ne_of_lt (IsS98.lt (show IsS98 w0 _ g s0_0 s0_1 s0_2 s0_3 from by repeat (first|(with_reducible first|exact HI0.out|apply IsS98.alloc|apply IsS98.drewN|apply IsS98.drew|apply IsS98.set_0|apply IsS98.set_1|apply IsS98.set_2|apply IsS98.set_3)|exact HI0.out))) : g ≠ gb146));have n7_:=A0_.mk ((by rw [hg];exact Nat.ne_of_gt (IsS98.lt (show IsS98 w0 _ g s0_0 s0_1 s0_2 s0_3 from by repeat (first|(with_reducible first|exact HI0.out|apply IsS98.alloc|apply IsS98.drewN|apply IsS98.drew|apply IsS98.set_0|apply IsS98.set_1|apply IsS98.set_2|apply IsS98.set_3)|exact HI0.out))) : gb146 ≠ g));clear HI0;clear HK;clear HB;have HI0:=n0_;have HK:=n1_;have HB:=n2_;have BK146:=n3_;have GW146:=n4_;have GE146:=n5_;have NB0_146:=n6_;have NB146_0:=n7_;clear n0_ n1_ n2_ n3_ n4_ n5_ n6_ n7_;clear hb hbox hg)|((with_reducible refine gate_dst (N:=3) rfl ?_);refine box_event ?hg (N:=3) ?hd (cs:=#[.int .i64 0,.int .i64 0]) (t:=40) ?hr ?_;(case hd => rfl);(case hg => rfl);(case hr => first|(go_simp;done)|(go_simp;rfl));intro gb147 hg w5 hbox hb;have n0_:=A0_.mk (IsS98.below (by repeat (first|(with_reducible first|exact HI0.out|apply IsS98.alloc|apply IsS98.drewN|apply IsS98.drew|apply IsS98.set_0|apply IsS98.set_1|apply IsS98.set_2|apply IsS98.set_3|refine IsS98.far ?_ NB0_146.out _)|exact HI0.out)) hb);have n1_:=A0_.mk (blk_below (g:=gb146) (o:=.cells #[.int .i64 0,.slice none 0 0,.slice none 0 0,.slice none 0 0,.int .i64 0] 28 (0,0)) (by (with_reducible repeat (first|refine bN_ ?_ _|refine bD_ ?_|refine bA_ ?_ _));exact BK146.out) hb);have n2_:=A0_.mk (KeepBut.trans (by repeat (first|(with_reducible first|exact HK.out|apply KeepBut.set_|apply keep_drewN|apply keep_drew|apply keep_alloc|refine keep_far ?_ GW146.out _)|exact HK.out)) (KeepBut.of_below hb g none) (.inl rfl));have n3_:=A0_.mk (below_step (by repeat (first|(with_reducible first|exact HB.out|apply eA_|apply eN_|apply eD_|refine eS_ ?_ (IsS98.ge HI0.out)|refine eS_ ?_ GE146.out)|exact HB.out)) hb);have n4_:=A0_.mk (hbox);have n5_:=A0_.mk ((by rw [hg];exact (keep_size (w:=w) (g:=g) (row:=none) (by repeat (first|(with_reducible first|exact HK.out|apply KeepBut.set_|apply keep_drewN|apply keep_drew|apply keep_alloc|refine keep_far ?_ GW146.out _)|exact HK.out))) : w.heap.size ≤ gb147));have n6_:=A0_.mk ((Nat.le_trans HW0.out (by rw [hg];exact (keep_size (w:=w) (g:=g) (row:=none) (by repeat (first|(with_reducible first|exact HK.out|apply KeepBut.set_|apply keep_drewN|apply keep_drew|apply keep_alloc|refine keep_far ?_ GW146.out _)|exact HK.out))) : w.heap.size ≤ gb147) : w0.heap.size ≤ gb147));have n7_:=A0_.mk ((by rw [hg];exact Nat.ne_of_lt (blk_lt (g:=gb146) (o:=.cells #[.int .i64 0,.slice none 0 0,.slice none 0 0,.slice none 0 0,.int .i64 0] 28 (0,0)) (by (with_reducible repeat (first|refine bN_ ?_ _|refine bD_ ?_|refine bA_ ?_ _));exact BK146.out)) : gb146 ≠ gb147));have n8_:=A0_.mk ((by rw [hg];exact Nat.ne_of_gt (blk_lt (g:=gb146) (o:=.cells #[.int .i64 0,.slice none 0 0,.slice none 0 0,.slice none 0 0,.int .i64 0] 28 (0,0)) (by (with_reducible repeat (first|refine bN_ ?_ _|refine bD_ ?_|refine bA_ ?_ _));exact BK146.out)) : gb147 ≠ gb146));have n9_:=A0_.mk ((by rw [hg];exact Nat.ne_of_lt (IsS98.lt (show IsS98 w0 _ g s0_0 s0_1 s0_2 s0_3 from by repeat (first|(with_reducible first|exact HI0.out|apply IsS98.alloc|apply IsS98.drewN|apply IsS98.drew|apply IsS98.set_0|apply IsS98.set_1|apply IsS98.set_2|apply IsS98.set_3|refine IsS98.far ?_ NB0_146.out _)|exact HI0.out))) : g ≠ gb147));have n10_:=A0_.mk ((by rw [hg];exact Nat.ne_of_gt (IsS98.lt (show IsS98 w0 _ g s0_0 s0_1 s0_2 s0_3 from by repeat (first|(with_reducible first|exact HI0.out|apply IsS98.alloc|apply IsS98.drewN|apply IsS98.drew|apply IsS98.set_0|apply IsS98.set_1|apply IsS98.set_2|apply IsS98.set_3|refine IsS98.far ?_ NB0_146.out _)|exact HI0.out))) : gb147 ≠ g));clear HI0;clear BK146;clear HK;clear HB;have HI0:=n0_;have BK146:=n1_;have HK:=n2_;have HB:=n3_;have BK147:=n4_;have GW147:=n5_;have GE147:=n6_;have NB146_147:=n7_;have NB147_146:=n8_;have NB0_147:=n9_;have NB147_0:=n10_;clear n0_ n1_ n2_ n3_ n4_ n5_ n6_ n7_ n8_ n9_ n10_;clear hb hbox hg)|((with_reducible refine gate_callee (f:=73) rfl ?_);refine goesL_ (some 11) rfl rfl Tryd.func73 (by kernel_rfl) rfl #[.pointer (some ⟨g,0,none⟩)] rfl (by (try simp only [List.map_toArray,List.map_cons,List.map_nil]);first|done|rfl|(simp only [List.length_drop,List.length_take];rfl)) ?_;(with_reducible refine (stim_reader_line.calls g s0_0 s0_1 s0_2 s0_3 t148 t149 t150 t151 t152 t153 w0 _ ?side3 ?side1 ?side2 A2.out).mono ?_);(case side1 => repeat (first|(with_reducible first|exact HI0.out|apply IsS98.alloc|apply IsS98.drewN|apply IsS98.drew|apply IsS98.set_0|apply IsS98.set_1|apply IsS98.set_2|apply IsS98.set_3|refine IsS98.far ?_ NB0_146.out _|refine IsS98.far ?_ NB0_147.out _)|exact HI0.out));(case side2 => repeat (first|(with_reducible first|exact HB.out|apply eA_|apply eN_|apply eD_|refine eS_ ?_ (IsS98.ge HI0.out)|refine eS_ ?_ GE146.out|refine eS_ ?_ GE147.out)|exact HB.out));(case side3 => exact HG.out);rintro e w6 ⟨rfl,hi,hb,hk⟩;refine ⟨_,rfl,?_⟩;have n0_:=A0_.mk (KeepBut.blk hk (g':=gb146) (o:=.cells #[.int .i64 0,.slice none 0 0,.slice none 0 0,.slice none 0 0,.int .i64 0] 28 (0,0)) (by (with_reducible repeat (first|refine bN_ ?_ _|refine bD_ ?_|refine bA_ ?_ _));exact BK146.out) NB146_0.out (by simp));have n1_:=A0_.mk (KeepBut.blk hk (g':=gb147) (o:=.cells #[.int .i64 0,.int .i64 0] 40 (0,0)) (by (with_reducible repeat (first|refine bN_ ?_ _|refine bD_ ?_|refine bA_ ?_ _));exact BK147.out) NB147_0.out (by simp));have n2_:=A0_.mk (KeepBut.trans (by repeat (first|(with_reducible first|exact HK.out|apply KeepBut.set_|apply keep_drewN|apply keep_drew|apply keep_alloc|refine keep_far ?_ GW146.out _|refine keep_far ?_ GW147.out _)|exact HK.out)) hk (.inl rfl));have n3_:=A0_.mk (hb);have n4_:=A0_.mk (hi);clear BK146;clear BK147;clear HK;clear HB;clear HI0;have BK146:=n0_;have BK147:=n1_;have HK:=n2_;have HB:=n3_;have HI0:=n4_;clear n0_ n1_ n2_ n3_ n4_;(try clear hb);(try clear hb2);(try clear hk);(try clear hi)))
 (try simp only [Act.put,List.setIfInBounds_toArray,List.set_cons_zero,List.set_cons_succ])
 go_cut [27] (fun v27 wc => ∃ (kq : Nat) (x27_2 : Bool),v27 = .bool x27_2 ∧ A0_ (stim_reader_one.j0 kq t148 x27_2 t150 t151 t152 t153 = some (r1,r2,r3,r4,r5,r6,r7,r8,r9,r10,r11)) ∧ A0_ (kq ≤ k) ∧ A0_ (wc.heap[gb146]? = some (.cells #[.int .i64 0,(.slice none 0 0),(.slice none 0 0),(.slice none 0 0),.int .i64 0] 28 (0,0))) ∧ A0_ (wc.heap[gb147]? = some (.cells #[.int .i64 0,.int .i64 0] 40 (0,0))) ∧ A0_ (IsS98 w0 wc g t150 t151 t152 t153) ∧ A0_ (KeepBut w wc g none) ∧ A0_ (Below w0.heap.size w0 wc))
 case first =>
  have H:=HC3.out
  clear HC3
  by_cases c7 : t149 = true
  ·subst c7
   have H1 : (if t148.toList = ([48] : List UInt8) then (stim_reader_one.j0 k t148 false t150 t151 t152 t153) else (if t148.toList = ([49] : List UInt8) then (stim_reader_one.j0 k t148 false t150 t151 t152 t153) else (stim_reader_one.j0 k t148 (t148.toList != ([50] : List UInt8)) t150 t151 t152 t153))) = some (r1,r2,r3,r4,r5,r6,r7,r8,r9,r10,r11):=by rw [if_pos rfl] at H;exact H
   clear H
   have H:=H1
   clear H1
   by_cases c8 : t148.toList = ([48] : List UInt8)
   ·rw [if_pos c8] at H
    have c8b0 : (t148.toList == ([48] : List UInt8)) = true:=beq_iff_eq.mpr c8
    have c8b1 : (t148.toList != ([48] : List UInt8)) = false:=bne_eq_false_iff_eq.mpr c8
    clear c8
    (first|rw [c8b0]|(simp only [i64_w,i32_w];rw [c8b0])|skip)
    have H':=A0_.mk H
    clear H
    go_wp2
    go_meet
    case rel => exact ⟨_,(false),(by first|rfl|(simp;done)|(simp [*];done)),H',⟨by first|omega|exact Nat.le_refl _⟩,⟨by (with_reducible repeat (first|refine bN_ ?_ _|refine bD_ ?_|refine bA_ ?_ _));exact BK146.out⟩,⟨by (with_reducible repeat (first|refine bN_ ?_ _|refine bD_ ?_|refine bA_ ?_ _));exact BK147.out⟩,⟨by repeat (first|(with_reducible first|exact HI0.out|apply IsS98.alloc|apply IsS98.drewN|apply IsS98.drew|apply IsS98.set_0|apply IsS98.set_1|apply IsS98.set_2|apply IsS98.set_3|refine IsS98.far ?_ NB0_146.out _|refine IsS98.far ?_ NB0_147.out _)|exact HI0.out)⟩,⟨by repeat (first|(with_reducible first|exact HK.out|apply KeepBut.set_|apply keep_drewN|apply keep_drew|apply keep_alloc|refine keep_far ?_ GW146.out _|refine keep_far ?_ GW147.out _)|exact HK.out)⟩,⟨by repeat (first|(with_reducible first|exact HB.out|apply eA_|apply eN_|apply eD_|refine eS_ ?_ (IsS98.ge HI0.out)|refine eS_ ?_ GE146.out|refine eS_ ?_ GE147.out)|exact HB.out)⟩⟩
   ·rw [if_neg c8] at H
    have c8b0 : (t148.toList == ([48] : List UInt8)) = false:=beq_eq_false_iff_ne.mpr c8
    have c8b1 : (t148.toList != ([48] : List UInt8)) = true:=bne_iff_ne.mpr c8
    (first|rw [c8b0]|(simp only [i64_w,i32_w];rw [c8b0])|skip)
    by_cases c9 : t148.toList = ([49] : List UInt8)
    ·rw [if_pos c9] at H
     have c9b0 : (t148.toList == ([49] : List UInt8)) = true:=beq_iff_eq.mpr c9
     have c9b1 : (t148.toList != ([49] : List UInt8)) = false:=bne_eq_false_iff_eq.mpr c9
     clear c9
     have H':=A0_.mk H
     clear H
     go_wp2
     go_meet
     case rel => exact ⟨_,(false),(by first|rfl|(simp;done)|(simp [*];done)),H',⟨by first|omega|exact Nat.le_refl _⟩,⟨by (with_reducible repeat (first|refine bN_ ?_ _|refine bD_ ?_|refine bA_ ?_ _));exact BK146.out⟩,⟨by (with_reducible repeat (first|refine bN_ ?_ _|refine bD_ ?_|refine bA_ ?_ _));exact BK147.out⟩,⟨by repeat (first|(with_reducible first|exact HI0.out|apply IsS98.alloc|apply IsS98.drewN|apply IsS98.drew|apply IsS98.set_0|apply IsS98.set_1|apply IsS98.set_2|apply IsS98.set_3|refine IsS98.far ?_ NB0_146.out _|refine IsS98.far ?_ NB0_147.out _)|exact HI0.out)⟩,⟨by repeat (first|(with_reducible first|exact HK.out|apply KeepBut.set_|apply keep_drewN|apply keep_drew|apply keep_alloc|refine keep_far ?_ GW146.out _|refine keep_far ?_ GW147.out _)|exact HK.out)⟩,⟨by repeat (first|(with_reducible first|exact HB.out|apply eA_|apply eN_|apply eD_|refine eS_ ?_ (IsS98.ge HI0.out)|refine eS_ ?_ GE146.out|refine eS_ ?_ GE147.out)|exact HB.out)⟩⟩
    ·rw [if_neg c9] at H
     have c9b0 : (t148.toList == ([49] : List UInt8)) = false:=beq_eq_false_iff_ne.mpr c9
     have c9b1 : (t148.toList != ([49] : List UInt8)) = true:=bne_iff_ne.mpr c9
     have H':=A0_.mk H
     clear H
     go_wp2
     go_meet
     case rel => exact ⟨_,((t148.toList != ([50] : List UInt8))),(by first|rfl|(simp;done)|(simp [*];done)),H',⟨by first|omega|exact Nat.le_refl _⟩,⟨by (with_reducible repeat (first|refine bN_ ?_ _|refine bD_ ?_|refine bA_ ?_ _));exact BK146.out⟩,⟨by (with_reducible repeat (first|refine bN_ ?_ _|refine bD_ ?_|refine bA_ ?_ _));exact BK147.out⟩,⟨by repeat (first|(with_reducible first|exact HI0.out|apply IsS98.alloc|apply IsS98.drewN|apply IsS98.drew|apply IsS98.set_0|apply IsS98.set_1|apply IsS98.set_2|apply IsS98.set_3|refine IsS98.far ?_ NB0_146.out _|refine IsS98.far ?_ NB0_147.out _)|exact HI0.out)⟩,⟨by repeat (first|(with_reducible first|exact HK.out|apply KeepBut.set_|apply keep_drewN|apply keep_drew|apply keep_alloc|refine keep_far ?_ GW146.out _|refine keep_far ?_ GW147.out _)|exact HK.out)⟩,⟨by repeat (first|(with_reducible first|exact HB.out|apply eA_|apply eN_|apply eD_|refine eS_ ?_ (IsS98.ge HI0.out)|refine eS_ ?_ GE146.out|refine eS_ ?_ GE147.out)|exact HB.out)⟩⟩
  ·replace c7:=Bool.eq_false_iff.mpr c7
   subst c7
   have H1 : (stim_reader_one.j0 k t148 true t150 t151 t152 t153) = some (r1,r2,r3,r4,r5,r6,r7,r8,r9,r10,r11):=by rw [if_neg (show ¬ (false = true) by decide)] at H;exact H
   clear H
   have H:=H1
   clear H1
   have H':=A0_.mk H
   clear H
   go_wp2
   go_meet
   case rel => exact ⟨_,(true),(by first|rfl|(simp;done)|(simp [*];done)),H',⟨by first|omega|exact Nat.le_refl _⟩,⟨by (with_reducible repeat (first|refine bN_ ?_ _|refine bD_ ?_|refine bA_ ?_ _));exact BK146.out⟩,⟨by (with_reducible repeat (first|refine bN_ ?_ _|refine bD_ ?_|refine bA_ ?_ _));exact BK147.out⟩,⟨by repeat (first|(with_reducible first|exact HI0.out|apply IsS98.alloc|apply IsS98.drewN|apply IsS98.drew|apply IsS98.set_0|apply IsS98.set_1|apply IsS98.set_2|apply IsS98.set_3|refine IsS98.far ?_ NB0_146.out _|refine IsS98.far ?_ NB0_147.out _)|exact HI0.out)⟩,⟨by repeat (first|(with_reducible first|exact HK.out|apply KeepBut.set_|apply keep_drewN|apply keep_drew|apply keep_alloc|refine keep_far ?_ GW146.out _|refine keep_far ?_ GW147.out _)|exact HK.out)⟩,⟨by repeat (first|(with_reducible first|exact HB.out|apply eA_|apply eN_|apply eD_|refine eS_ ?_ (IsS98.ge HI0.out)|refine eS_ ?_ GE146.out|refine eS_ ?_ GE147.out)|exact HB.out)⟩⟩
 case rest =>
  clear HC3
  try clear p2
  try clear c4
  try clear c7
  try clear c8
  try clear c8b0
  try clear c8b1
  try clear c9
  try clear c9b0
  try clear c9b1
  obtain ⟨kq,x27_2,rfl,HA,HJ2,BK146,BK147,HI0,HK,HB⟩:=hcut
  cases kq with
  |zero => exact absurd HA.out (by simp [stim_reader_one.j0])
  |succ kj2 =>
   have H:=HA.out
   clear HA
   simp only [stim_reader_one.j0] at H
   by_cases c10 : x27_2 = true
   ·subst c10
    have H1 : ((stim_reader_wrong.f t150 t151 t152 t153 120).bind fun bt154 => (some (0,([] : List (S83)),([] : List Bool),([] : List (List Bool)),0,bt154.1,bt154.2.1,bt154.2.2.1,bt154.2.2.2.1,bt154.2.2.2.2.1,bt154.2.2.2.2.2))) = some (r1,r2,r3,r4,r5,r6,r7,r8,r9,r10,r11):=by rw [if_pos rfl] at H;exact H
    clear H
    have H:=H1
    clear H1
    replace H:=Option.bind_eq_some_iff.mp H
    obtain ⟨⟨t154,t155,t156,t157,t158,t159⟩,A110,H⟩:=H
    replace H : (some (0,([] : List (S83)),([] : List Bool),([] : List (List Bool)),0,t154,t155,t156,t157,t158,t159)) = some (r1,r2,r3,r4,r5,r6,r7,r8,r9,r10,r11):=H
    have A11:=A0_.mk A110
    clear A110
    simp only [Option.some.injEq,Prod.mk.injEq] at H
    obtain ⟨rfl,rfl,rfl,rfl,rfl,rfl,rfl,rfl,rfl,rfl,rfl⟩:=H
    go_wp2_with (first|((with_reducible refine gate_callee (f:=48) rfl ?_);refine goesL_ (some 30) rfl rfl Tryd.func48 (by kernel_rfl) rfl #[.pointer (some ⟨g,0,none⟩),.int .i64 120] rfl (by (try simp only [List.map_toArray,List.map_cons,List.map_nil]);first|done|rfl|(simp only [List.length_drop,List.length_take];rfl)) ?_;(with_reducible refine (stim_reader_wrong.calls g t150 t151 t152 t153 120 t154 t155 t156 t157 t158 t159 w0 _ ?side1 ?side2 A11.out).mono ?_);(case side1 => repeat (first|(with_reducible first|exact HI0.out|apply IsS98.alloc|apply IsS98.drewN|apply IsS98.drew|apply IsS98.set_0|apply IsS98.set_1|apply IsS98.set_2|apply IsS98.set_3|refine IsS98.far ?_ NB0_146.out _|refine IsS98.far ?_ NB0_147.out _)|exact HI0.out));(case side2 => repeat (first|(with_reducible first|exact HB.out|apply eA_|apply eN_|apply eD_|refine eS_ ?_ (IsS98.ge HI0.out)|refine eS_ ?_ GE146.out|refine eS_ ?_ GE147.out)|exact HB.out));rintro e w12 ⟨rfl,hi,hb,hk⟩;refine ⟨_,rfl,?_⟩;have n0_:=A0_.mk (KeepBut.blk hk (g':=gb146) (o:=.cells #[.int .i64 0,.slice none 0 0,.slice none 0 0,.slice none 0 0,.int .i64 0] 28 (0,0)) (by (with_reducible repeat (first|refine bN_ ?_ _|refine bD_ ?_|refine bA_ ?_ _));exact BK146.out) NB146_0.out (by simp));have n1_:=A0_.mk (KeepBut.blk hk (g':=gb147) (o:=.cells #[.int .i64 0,.int .i64 0] 40 (0,0)) (by (with_reducible repeat (first|refine bN_ ?_ _|refine bD_ ?_|refine bA_ ?_ _));exact BK147.out) NB147_0.out (by simp));have n2_:=A0_.mk (KeepBut.trans (by repeat (first|(with_reducible first|exact HK.out|apply KeepBut.set_|apply keep_drewN|apply keep_drew|apply keep_alloc|refine keep_far ?_ GW146.out _|refine keep_far ?_ GW147.out _)|exact HK.out)) hk (.inl rfl));have n3_:=A0_.mk (hb);have n4_:=A0_.mk (hi);clear BK146;clear BK147;clear HK;clear HB;clear HI0;have BK146:=n0_;have BK147:=n1_;have HK:=n2_;have HB:=n3_;have HI0:=n4_;clear n0_ n1_ n2_ n3_ n4_;(try clear hb);(try clear hb2);(try clear hk);(try clear hi);have hnb13:=NB146_147.out;have hnc13:=NB147_146.out;have hnb14:=NB146_0.out;have hnc14:=NB0_146.out;have hcz15_0 : w12.cell? ⟨gb146,0,none⟩ = some (.int .i64 0):=(bC_ BK146.out 0).trans rfl;have hcz15_1 : w12.cell? ⟨gb146,1,none⟩ = some (.slice none 0 0):=(bC_ BK146.out 1).trans rfl;have hcz15_2 : w12.cell? ⟨gb146,2,none⟩ = some (.slice none 0 0):=(bC_ BK146.out 2).trans rfl;have hcz15_3 : w12.cell? ⟨gb146,3,none⟩ = some (.slice none 0 0):=(bC_ BK146.out 3).trans rfl;have hcz15_4 : w12.cell? ⟨gb146,4,none⟩ = some (.int .i64 0):=(bC_ BK146.out 4).trans rfl;have hfz15_0:=bF_ BK146.out 0;have hfz15_1:=bF_ BK146.out 1;have hfz15_2:=bF_ BK146.out 2;have hfz15_3:=bF_ BK146.out 3;have hfz15_4:=bF_ BK146.out 4;have hnb16:=NB147_0.out;have hnc16:=NB0_147.out;have hcz17_0 : w12.cell? ⟨gb147,0,none⟩ = some (.int .i64 0):=(bC_ BK147.out 0).trans rfl;have hcz17_1 : w12.cell? ⟨gb147,1,none⟩ = some (.int .i64 0):=(bC_ BK147.out 1).trans rfl;have hfz17_0:=bF_ BK147.out 0;have hfz17_1:=bF_ BK147.out 1))
    refine bodyPost_ret (results_cc rfl _ _ gb146 gb147 28 40 #[.int .i64 0,.slice none 0 0,.slice none 0 0,.slice none 0 0,.int .i64 0] #[.int .i64 t154,.int .i64 t155] (0,0) (0,0) _ _ rfl (by (with_reducible repeat (first|refine bN_ ?_ _|refine bD_ ?_|refine bA_ ?_ _));refine blk_far ?_ NB146_147.out _;(with_reducible repeat (first|refine bN_ ?_ _|refine bD_ ?_|refine bA_ ?_ _));refine blk_far ?_ NB146_147.out _;(with_reducible repeat (first|refine bN_ ?_ _|refine bD_ ?_|refine bA_ ?_ _));refine blk_put (cs:=#[.int .i64 0,.slice none 0 0,.slice none 0 0,.slice none 0 0,.int .i64 0]) ?_ 4 _ rfl;(with_reducible repeat (first|refine bN_ ?_ _|refine bD_ ?_|refine bA_ ?_ _));refine blk_put (cs:=#[.int .i64 0,.slice none 0 0,.slice none 0 0,.slice none 0 0,.int .i64 0]) ?_ 3 _ rfl;(with_reducible repeat (first|refine bN_ ?_ _|refine bD_ ?_|refine bA_ ?_ _));refine blk_put (cs:=#[.int .i64 0,.slice none 0 0,.slice none 0 0,.slice none 0 0,.int .i64 0]) ?_ 2 _ rfl;(with_reducible repeat (first|refine bN_ ?_ _|refine bD_ ?_|refine bA_ ?_ _));refine blk_put (cs:=#[.int .i64 0,.slice none 0 0,.slice none 0 0,.slice none 0 0,.int .i64 0]) ?_ 1 _ rfl;(with_reducible repeat (first|refine bN_ ?_ _|refine bD_ ?_|refine bA_ ?_ _));refine blk_put (cs:=#[.int .i64 0,.slice none 0 0,.slice none 0 0,.slice none 0 0,.int .i64 0]) ?_ 0 _ rfl;(with_reducible repeat (first|refine bN_ ?_ _|refine bD_ ?_|refine bA_ ?_ _));exact BK146.out) Tryd.underlying28 rfl (by kernel_rfl) rfl (by (with_reducible repeat (first|refine bN_ ?_ _|refine bD_ ?_|refine bA_ ?_ _));refine blk_put (cs:=#[.int .i64 t154,.int .i64 0]) ?_ 1 _ rfl;(with_reducible repeat (first|refine bN_ ?_ _|refine bD_ ?_|refine bA_ ?_ _));refine blk_put (cs:=#[.int .i64 0,.int .i64 0]) ?_ 0 _ rfl;(with_reducible repeat (first|refine bN_ ?_ _|refine bD_ ?_|refine bA_ ?_ _));refine blk_far ?_ NB147_146.out _;(with_reducible repeat (first|refine bN_ ?_ _|refine bD_ ?_|refine bA_ ?_ _));refine blk_far ?_ NB147_146.out _;(with_reducible repeat (first|refine bN_ ?_ _|refine bD_ ?_|refine bA_ ?_ _));refine blk_far ?_ NB147_146.out _;(with_reducible repeat (first|refine bN_ ?_ _|refine bD_ ?_|refine bA_ ?_ _));refine blk_far ?_ NB147_146.out _;(with_reducible repeat (first|refine bN_ ?_ _|refine bD_ ?_|refine bA_ ?_ _));refine blk_far ?_ NB147_146.out _;(with_reducible repeat (first|refine bN_ ?_ _|refine bD_ ?_|refine bA_ ?_ _));exact BK147.out) Tryd.underlying40 rfl (by kernel_rfl)) rfl ?_
    exact ⟨_,_,_,by first|rfl|(simp [errW_none,errW_some] <;> rfl)|(simp [*,errW_none,errW_some] <;> rfl),by first|exact Kd.R_nil _ _ _ _ _|exact Kd.N_nil _ _ _ _ _|exact Kd.V_nil _ _ _ _ _|exact Kd.Q_nil _ _ _ _ _|exact Kd.S_nil _ _ _ _ _,by first|exact Kd.R_nil _ _ _ _ _|exact Kd.N_nil _ _ _ _ _|exact Kd.V_nil _ _ _ _ _|exact Kd.Q_nil _ _ _ _ _|exact Kd.S_nil _ _ _ _ _,by first|exact Kd.S_nil _ _ _ _ _|exact Kd.N_nil _ _ _ _ _|exact Kd.V_nil _ _ _ _ _|exact Kd.Q_nil _ _ _ _ _|exact Kd.R_nil _ _ _ _ _,by repeat (first|(with_reducible first|exact HI0.out|apply IsS98.alloc|apply IsS98.drewN|apply IsS98.drew|apply IsS98.set_0|apply IsS98.set_1|apply IsS98.set_2|apply IsS98.set_3|refine IsS98.far ?_ NB0_146.out _|refine IsS98.far ?_ NB0_147.out _)|exact HI0.out),by repeat (first|(with_reducible first|exact HB.out|apply eA_|apply eN_|apply eD_|refine eS_ ?_ (IsS98.ge HI0.out)|refine eS_ ?_ GE146.out|refine eS_ ?_ GE147.out)|exact HB.out),by repeat (first|(with_reducible first|exact HK.out|apply KeepBut.set_|apply keep_drewN|apply keep_drew|apply keep_alloc|refine keep_far ?_ GW146.out _|refine keep_far ?_ GW147.out _)|exact HK.out)⟩
   ·replace c10:=Bool.eq_false_iff.mpr c10
    subst c10
    have H1 : (if 0 < (t148.size : Int) then ((stim_reader_skip.f t150 t151 t152 t153 t148).bind fun bt161 => ((stim_reader_line.f bt161.1 bt161.2.1 bt161.2.2.1 bt161.2.2.2).bind fun bt165 => ((stim_properties.f bt165.1).bind fun bt171 => (if bt165.2.1 = true then (stim_reader_one.j1 kj2 bt165.1 bt171.1 (!bt171.2) bt165.2.2.1 bt165.2.2.2.1 bt165.2.2.2.2.1 bt165.2.2.2.2.2 (((bt t148 0) - 48) % 256) 0) else (stim_reader_one.j1 kj2 bt165.1 bt171.1 true bt165.2.2.1 bt165.2.2.2.1 bt165.2.2.2.2.1 bt165.2.2.2.2.2 (((bt t148 0) - 48) % 256) 0))))) else (none)) = some (r1,r2,r3,r4,r5,r6,r7,r8,r9,r10,r11):=by rw [if_neg (show ¬ (false = true) by decide)] at H;exact H
    clear H
    have H:=H1
    clear H1
    by_cases c18 : 0 < (t148.size : Int)
    ·rw [if_pos c18] at H
     have c18b0 : decide (0 < (t148.size : Int)) = true:=decide_eq_true c18
     have c18b1 : decide (0 < t148.size) = true:=decide_eq_true (by omega)
     have c18b2 : 0 < t148.size:=by omega
     clear c18
     replace H:=Option.bind_eq_some_iff.mp H
     obtain ⟨⟨t161,t162,t163,t164⟩,A200,H⟩:=H
     replace H : ((stim_reader_line.f t161 t162 t163 t164).bind fun bt165 => ((stim_properties.f bt165.1).bind fun bt171 => (if bt165.2.1 = true then (stim_reader_one.j1 kj2 bt165.1 bt171.1 (!bt171.2) bt165.2.2.1 bt165.2.2.2.1 bt165.2.2.2.2.1 bt165.2.2.2.2.2 (((bt t148 0) - 48) % 256) 0) else (stim_reader_one.j1 kj2 bt165.1 bt171.1 true bt165.2.2.1 bt165.2.2.2.1 bt165.2.2.2.2.1 bt165.2.2.2.2.2 (((bt t148 0) - 48) % 256) 0)))) = some (r1,r2,r3,r4,r5,r6,r7,r8,r9,r10,r11):=H
     have A20:=A0_.mk A200
     clear A200
     replace H:=Option.bind_eq_some_iff.mp H
     obtain ⟨⟨t165,t166,t167,t168,t169,t170⟩,A210,H⟩:=H
     replace H : ((stim_properties.f t165).bind fun bt171 => (if t166 = true then (stim_reader_one.j1 kj2 t165 bt171.1 (!bt171.2) t167 t168 t169 t170 (((bt t148 0) - 48) % 256) 0) else (stim_reader_one.j1 kj2 t165 bt171.1 true t167 t168 t169 t170 (((bt t148 0) - 48) % 256) 0))) = some (r1,r2,r3,r4,r5,r6,r7,r8,r9,r10,r11):=H
     have A21:=A0_.mk A210
     clear A210
     replace H:=Option.bind_eq_some_iff.mp H
     obtain ⟨⟨t171,t172⟩,A220,H⟩:=H
     replace H : (if t166 = true then (stim_reader_one.j1 kj2 t165 t171 (!t172) t167 t168 t169 t170 (((bt t148 0) - 48) % 256) 0) else (stim_reader_one.j1 kj2 t165 t171 true t167 t168 t169 t170 (((bt t148 0) - 48) % 256) 0)) = some (r1,r2,r3,r4,r5,r6,r7,r8,r9,r10,r11):=H
     have A22:=A0_.mk A220
     clear A220
     have HC23:=A0_.mk H
     clear H
     have p19 : 0 ≤ (0 : Int):=(by omega)
     have q19 : 0 < t148.size:=(by have : (0 : Int) < (t148.size : Int):=of_decide_eq_true (by first|(with_reducible assumption)|assumption);omega)
     have hx19 : ∀ h : 0 < t148.size,((t148[0]'h).toNat : Int) = bt t148 0:=bt_at t148 0
     clear p19
     have qi19 : (0 < (t148.size : Int)) = True:=eq_true (of_decide_eq_true (by first|(with_reducible assumption)|assumption))
     replace q19:=eq_true q19
     go_upto_region 8 with (first|((with_reducible refine gate_dst (N:=6) rfl ?_);refine box_event ?hg (N:=6) ?hd (cs:=#[.int .i64 0,.slice none 0 0,.slice none 0 0,.slice none 0 0,.int .i64 0]) (t:=28) ?hr ?_;(case hd => rfl);(case hg => rfl);(case hr => first|(go_simp;done)|(go_simp;rfl));intro gb160 hg w24 hbox hb;have n0_:=A0_.mk (blk_below (g:=gb146) (o:=.cells #[.int .i64 0,.slice none 0 0,.slice none 0 0,.slice none 0 0,.int .i64 0] 28 (0,0)) (by (with_reducible repeat (first|refine bN_ ?_ _|refine bD_ ?_|refine bA_ ?_ _));exact BK146.out) hb);have n1_:=A0_.mk (blk_below (g:=gb147) (o:=.cells #[.int .i64 0,.int .i64 0] 40 (0,0)) (by (with_reducible repeat (first|refine bN_ ?_ _|refine bD_ ?_|refine bA_ ?_ _));exact BK147.out) hb);have n2_:=A0_.mk (IsS98.below (by repeat (first|(with_reducible first|exact HI0.out|apply IsS98.alloc|apply IsS98.drewN|apply IsS98.drew|apply IsS98.set_0|apply IsS98.set_1|apply IsS98.set_2|apply IsS98.set_3|refine IsS98.far ?_ NB0_146.out _|refine IsS98.far ?_ NB0_147.out _)|exact HI0.out)) hb);have n3_:=A0_.mk (KeepBut.trans (by repeat (first|(with_reducible first|exact HK.out|apply KeepBut.set_|apply keep_drewN|apply keep_drew|apply keep_alloc|refine keep_far ?_ GW146.out _|refine keep_far ?_ GW147.out _)|exact HK.out)) (KeepBut.of_below hb g none) (.inl rfl));have n4_:=A0_.mk (below_step (by repeat (first|(with_reducible first|exact HB.out|apply eA_|apply eN_|apply eD_|refine eS_ ?_ (IsS98.ge HI0.out)|refine eS_ ?_ GE146.out|refine eS_ ?_ GE147.out)|exact HB.out)) hb);have n5_:=A0_.mk (hbox);have n6_:=A0_.mk ((by rw [hg];exact (keep_size (w:=w) (g:=g) (row:=none) (by repeat (first|(with_reducible first|exact HK.out|apply KeepBut.set_|apply keep_drewN|apply keep_drew|apply keep_alloc|refine keep_far ?_ GW146.out _|refine keep_far ?_ GW147.out _)|exact HK.out))) : w.heap.size ≤ gb160));have n7_:=A0_.mk ((Nat.le_trans HW0.out (by rw [hg];exact (keep_size (w:=w) (g:=g) (row:=none) (by repeat (first|(with_reducible first|exact HK.out|apply KeepBut.set_|apply keep_drewN|apply keep_drew|apply keep_alloc|refine keep_far ?_ GW146.out _|refine keep_far ?_ GW147.out _)|exact HK.out))) : w.heap.size ≤ gb160) : w0.heap.size ≤ gb160));have n8_:=A0_.mk ((by rw [hg];exact Nat.ne_of_lt (blk_lt (g:=gb146) (o:=.cells #[.int .i64 0,.slice none 0 0,.slice none 0 0,.slice none 0 0,.int .i64 0] 28 (0,0)) (by (with_reducible repeat (first|refine bN_ ?_ _|refine bD_ ?_|refine bA_ ?_ _));exact BK146.out)) : gb146 ≠ gb160));have n9_:=A0_.mk ((by rw [hg];exact Nat.ne_of_gt (blk_lt (g:=gb146) (o:=.cells #[.int .i64 0,.slice none 0 0,.slice none 0 0,.slice none 0 0,.int .i64 0] 28 (0,0)) (by (with_reducible repeat (first|refine bN_ ?_ _|refine bD_ ?_|refine bA_ ?_ _));exact BK146.out)) : gb160 ≠ gb146));have n10_:=A0_.mk ((by rw [hg];exact Nat.ne_of_lt (blk_lt (g:=gb147) (o:=.cells #[.int .i64 0,.int .i64 0] 40 (0,0)) (by (with_reducible repeat (first|refine bN_ ?_ _|refine bD_ ?_|refine bA_ ?_ _));exact BK147.out)) : gb147 ≠ gb160));have n11_:=A0_.mk ((by rw [hg];exact Nat.ne_of_gt (blk_lt (g:=gb147) (o:=.cells #[.int .i64 0,.int .i64 0] 40 (0,0)) (by (with_reducible repeat (first|refine bN_ ?_ _|refine bD_ ?_|refine bA_ ?_ _));exact BK147.out)) : gb160 ≠ gb147));have n12_:=A0_.mk ((by rw [hg];exact Nat.ne_of_lt (IsS98.lt (show IsS98 w0 _ g t150 t151 t152 t153 from by repeat (first|(with_reducible first|exact HI0.out|apply IsS98.alloc|apply IsS98.drewN|apply IsS98.drew|apply IsS98.set_0|apply IsS98.set_1|apply IsS98.set_2|apply IsS98.set_3|refine IsS98.far ?_ NB0_146.out _|refine IsS98.far ?_ NB0_147.out _)|exact HI0.out))) : g ≠ gb160));have n13_:=A0_.mk ((by rw [hg];exact Nat.ne_of_gt (IsS98.lt (show IsS98 w0 _ g t150 t151 t152 t153 from by repeat (first|(with_reducible first|exact HI0.out|apply IsS98.alloc|apply IsS98.drewN|apply IsS98.drew|apply IsS98.set_0|apply IsS98.set_1|apply IsS98.set_2|apply IsS98.set_3|refine IsS98.far ?_ NB0_146.out _|refine IsS98.far ?_ NB0_147.out _)|exact HI0.out))) : gb160 ≠ g));clear BK146;clear BK147;clear HI0;clear HK;clear HB;have BK146:=n0_;have BK147:=n1_;have HI0:=n2_;have HK:=n3_;have HB:=n4_;have BK160:=n5_;have GW160:=n6_;have GE160:=n7_;have NB146_160:=n8_;have NB160_146:=n9_;have NB147_160:=n10_;have NB160_147:=n11_;have NB0_160:=n12_;have NB160_0:=n13_;clear n0_ n1_ n2_ n3_ n4_ n5_ n6_ n7_ n8_ n9_ n10_ n11_ n12_ n13_;clear hb hbox hg;have hnb25:=NB160_146.out;have hnc25:=NB146_160.out;have hnb26:=NB160_147.out;have hnc26:=NB147_160.out;have hnb27:=NB160_0.out;have hnc27:=NB0_160.out;have hcz28_0 : w24.cell? ⟨gb160,0,none⟩ = some (.int .i64 0):=(bC_ BK160.out 0).trans rfl;have hcz28_1 : w24.cell? ⟨gb160,1,none⟩ = some (.slice none 0 0):=(bC_ BK160.out 1).trans rfl;have hcz28_2 : w24.cell? ⟨gb160,2,none⟩ = some (.slice none 0 0):=(bC_ BK160.out 2).trans rfl;have hcz28_3 : w24.cell? ⟨gb160,3,none⟩ = some (.slice none 0 0):=(bC_ BK160.out 3).trans rfl;have hcz28_4 : w24.cell? ⟨gb160,4,none⟩ = some (.int .i64 0):=(bC_ BK160.out 4).trans rfl;have hfz28_0:=bF_ BK160.out 0;have hfz28_1:=bF_ BK160.out 1;have hfz28_2:=bF_ BK160.out 2;have hfz28_3:=bF_ BK160.out 3;have hfz28_4:=bF_ BK160.out 4)|((with_reducible refine gate_callee (f:=74) rfl ?_);refine goesL_ (some 38) rfl rfl Tryd.func74 (by kernel_rfl) rfl #[.pointer (some ⟨g,0,none⟩),.string t148] rfl (by (try simp only [List.map_toArray,List.map_cons,List.map_nil]);first|done|rfl|(simp only [List.length_drop,List.length_take];rfl)) ?_;(with_reducible refine (stim_reader_skip.calls g t150 t151 t152 t153 t148 t161 t162 t163 t164 w0 _ ?side1 ?side2 A20.out).mono ?_);(case side1 => repeat (first|(with_reducible first|exact HI0.out|apply IsS98.alloc|apply IsS98.drewN|apply IsS98.drew|apply IsS98.set_0|apply IsS98.set_1|apply IsS98.set_2|apply IsS98.set_3|refine IsS98.far ?_ NB0_146.out _|refine IsS98.far ?_ NB0_147.out _|refine IsS98.far ?_ NB0_160.out _)|exact HI0.out));(case side2 => repeat (first|(with_reducible first|exact HB.out|apply eA_|apply eN_|apply eD_|refine eS_ ?_ (IsS98.ge HI0.out)|refine eS_ ?_ GE146.out|refine eS_ ?_ GE147.out|refine eS_ ?_ GE160.out)|exact HB.out));rintro e w29 ⟨rfl,hi,hb,hk⟩;refine ⟨_,rfl,?_⟩;have n0_:=A0_.mk (KeepBut.blk hk (g':=gb146) (o:=.cells #[.int .i64 0,.slice none 0 0,.slice none 0 0,.slice none 0 0,.int .i64 0] 28 (0,0)) (by (with_reducible repeat (first|refine bN_ ?_ _|refine bD_ ?_|refine bA_ ?_ _));refine blk_far ?_ NB146_160.out _;(with_reducible repeat (first|refine bN_ ?_ _|refine bD_ ?_|refine bA_ ?_ _));refine blk_far ?_ NB146_160.out _;(with_reducible repeat (first|refine bN_ ?_ _|refine bD_ ?_|refine bA_ ?_ _));refine blk_far ?_ NB146_160.out _;(with_reducible repeat (first|refine bN_ ?_ _|refine bD_ ?_|refine bA_ ?_ _));refine blk_far ?_ NB146_160.out _;(with_reducible repeat (first|refine bN_ ?_ _|refine bD_ ?_|refine bA_ ?_ _));refine blk_far ?_ NB146_160.out _;(with_reducible repeat (first|refine bN_ ?_ _|refine bD_ ?_|refine bA_ ?_ _));exact BK146.out) NB146_0.out (by simp));have n1_:=A0_.mk (KeepBut.blk hk (g':=gb147) (o:=.cells #[.int .i64 0,.int .i64 0] 40 (0,0)) (by (with_reducible repeat (first|refine bN_ ?_ _|refine bD_ ?_|refine bA_ ?_ _));refine blk_far ?_ NB147_160.out _;(with_reducible repeat (first|refine bN_ ?_ _|refine bD_ ?_|refine bA_ ?_ _));refine blk_far ?_ NB147_160.out _;(with_reducible repeat (first|refine bN_ ?_ _|refine bD_ ?_|refine bA_ ?_ _));refine blk_far ?_ NB147_160.out _;(with_reducible repeat (first|refine bN_ ?_ _|refine bD_ ?_|refine bA_ ?_ _));refine blk_far ?_ NB147_160.out _;(with_reducible repeat (first|refine bN_ ?_ _|refine bD_ ?_|refine bA_ ?_ _));refine blk_far ?_ NB147_160.out _;(with_reducible repeat (first|refine bN_ ?_ _|refine bD_ ?_|refine bA_ ?_ _));exact BK147.out) NB147_0.out (by simp));have n2_:=A0_.mk (KeepBut.blk hk (g':=gb160) (o:=.cells #[.int .i64 (((bt t148 0) - 48) % 256),.slice none 0 0,.slice none 0 0,.slice none 0 0,.int .i64 0] 28 (0,0)) (by (with_reducible repeat (first|refine bN_ ?_ _|refine bD_ ?_|refine bA_ ?_ _));refine blk_put (cs:=#[.int .i64 (((bt t148 0) - 48) % 256),.slice none 0 0,.slice none 0 0,.slice none 0 0,.int .i64 0]) ?_ 4 _ rfl;(with_reducible repeat (first|refine bN_ ?_ _|refine bD_ ?_|refine bA_ ?_ _));refine blk_put (cs:=#[.int .i64 (((bt t148 0) - 48) % 256),.slice none 0 0,.slice none 0 0,.slice none 0 0,.int .i64 0]) ?_ 3 _ rfl;(with_reducible repeat (first|refine bN_ ?_ _|refine bD_ ?_|refine bA_ ?_ _));refine blk_put (cs:=#[.int .i64 (((bt t148 0) - 48) % 256),.slice none 0 0,.slice none 0 0,.slice none 0 0,.int .i64 0]) ?_ 2 _ rfl;(with_reducible repeat (first|refine bN_ ?_ _|refine bD_ ?_|refine bA_ ?_ _));refine blk_put (cs:=#[.int .i64 (((bt t148 0) - 48) % 256),.slice none 0 0,.slice none 0 0,.slice none 0 0,.int .i64 0]) ?_ 1 _ rfl;(with_reducible repeat (first|refine bN_ ?_ _|refine bD_ ?_|refine bA_ ?_ _));refine blk_put (cs:=#[.int .i64 0,.slice none 0 0,.slice none 0 0,.slice none 0 0,.int .i64 0]) ?_ 0 _ rfl;(with_reducible repeat (first|refine bN_ ?_ _|refine bD_ ?_|refine bA_ ?_ _));exact BK160.out) NB160_0.out (by simp));have n3_:=A0_.mk (KeepBut.trans (by repeat (first|(with_reducible first|exact HK.out|apply KeepBut.set_|apply keep_drewN|apply keep_drew|apply keep_alloc|refine keep_far ?_ GW146.out _|refine keep_far ?_ GW147.out _|refine keep_far ?_ GW160.out _)|exact HK.out)) hk (.inl rfl));have n4_:=A0_.mk (hb);have n5_:=A0_.mk (hi);clear BK146;clear BK147;clear BK160;clear HK;clear HB;clear HI0;have BK146:=n0_;have BK147:=n1_;have BK160:=n2_;have HK:=n3_;have HB:=n4_;have HI0:=n5_;clear n0_ n1_ n2_ n3_ n4_ n5_;(try clear hb);(try clear hb2);(try clear hk);(try clear hi))|((with_reducible refine gate_callee (f:=73) rfl ?_);refine goesL_ (some 41) rfl rfl Tryd.func73 (by kernel_rfl) rfl #[.pointer (some ⟨g,0,none⟩)] rfl (by (try simp only [List.map_toArray,List.map_cons,List.map_nil]);first|done|rfl|(simp only [List.length_drop,List.length_take];rfl)) ?_;(with_reducible refine (stim_reader_line.calls g t161 t162 t163 t164 t165 t166 t167 t168 t169 t170 w0 _ ?side3 ?side1 ?side2 A21.out).mono ?_);(case side1 => repeat (first|(with_reducible first|exact HI0.out|apply IsS98.alloc|apply IsS98.drewN|apply IsS98.drew|apply IsS98.set_0|apply IsS98.set_1|apply IsS98.set_2|apply IsS98.set_3|refine IsS98.far ?_ NB0_146.out _|refine IsS98.far ?_ NB0_147.out _|refine IsS98.far ?_ NB0_160.out _)|exact HI0.out));(case side2 => repeat (first|(with_reducible first|exact HB.out|apply eA_|apply eN_|apply eD_|refine eS_ ?_ (IsS98.ge HI0.out)|refine eS_ ?_ GE146.out|refine eS_ ?_ GE147.out|refine eS_ ?_ GE160.out)|exact HB.out));(case side3 => exact HG.out);rintro e w30 ⟨rfl,hi,hb,hk⟩;refine ⟨_,rfl,?_⟩;have n0_:=A0_.mk (KeepBut.blk hk (g':=gb146) (o:=.cells #[.int .i64 0,.slice none 0 0,.slice none 0 0,.slice none 0 0,.int .i64 0] 28 (0,0)) (by (with_reducible repeat (first|refine bN_ ?_ _|refine bD_ ?_|refine bA_ ?_ _));exact BK146.out) NB146_0.out (by simp));have n1_:=A0_.mk (KeepBut.blk hk (g':=gb147) (o:=.cells #[.int .i64 0,.int .i64 0] 40 (0,0)) (by (with_reducible repeat (first|refine bN_ ?_ _|refine bD_ ?_|refine bA_ ?_ _));exact BK147.out) NB147_0.out (by simp));have n2_:=A0_.mk (KeepBut.blk hk (g':=gb160) (o:=.cells #[.int .i64 (((bt t148 0) - 48) % 256),.slice none 0 0,.slice none 0 0,.slice none 0 0,.int .i64 0] 28 (0,0)) (by (with_reducible repeat (first|refine bN_ ?_ _|refine bD_ ?_|refine bA_ ?_ _));exact BK160.out) NB160_0.out (by simp));have n3_:=A0_.mk (KeepBut.trans (by repeat (first|(with_reducible first|exact HK.out|apply KeepBut.set_|apply keep_drewN|apply keep_drew|apply keep_alloc|refine keep_far ?_ GW146.out _|refine keep_far ?_ GW147.out _|refine keep_far ?_ GW160.out _)|exact HK.out)) hk (.inl rfl));have n4_:=A0_.mk (hb);have n5_:=A0_.mk (hi);clear BK146;clear BK147;clear BK160;clear HK;clear HB;clear HI0;have BK146:=n0_;have BK147:=n1_;have BK160:=n2_;have HK:=n3_;have HB:=n4_;have HI0:=n5_;clear n0_ n1_ n2_ n3_ n4_ n5_;(try clear hb);(try clear hb2);(try clear hk);(try clear hi))|((with_reducible refine gate_callee (f:=75) rfl ?_);refine goesL_ (some 46) rfl rfl Tryd.func75 (by kernel_rfl) rfl #[.string t165] rfl (by (try simp only [List.map_toArray,List.map_cons,List.map_nil]);first|done|rfl|(simp only [List.length_drop,List.length_take];rfl)) ?_;(with_reducible refine (stim_properties.calls t165 t171 t172 _ ?side1 A22.out).mono ?_);(case side1 => exact GV_below HG.out (by repeat (first|(with_reducible first|exact HB.out|apply eA_|apply eN_|apply eD_|refine eS_ ?_ (IsS98.ge HI0.out)|refine eS_ ?_ GE146.out|refine eS_ ?_ GE147.out|refine eS_ ?_ GE160.out)|exact HB.out)));rintro e w31 ⟨v173,rfl,ho0,hb⟩;refine ⟨_,rfl,?_⟩;have n0_:=A0_.mk (Kd.R_lower ho0 (keep_size (w:=w) (g:=g) (row:=none) (by repeat (first|(with_reducible first|exact HK.out|apply KeepBut.set_|apply keep_drewN|apply keep_drew|apply keep_alloc|refine keep_far ?_ GW146.out _|refine keep_far ?_ GW147.out _|refine keep_far ?_ GW160.out _)|exact HK.out))));have n1_:=A0_.mk (blk_below (g:=gb146) (o:=.cells #[.int .i64 0,.slice none 0 0,.slice none 0 0,.slice none 0 0,.int .i64 0] 28 (0,0)) (by (with_reducible repeat (first|refine bN_ ?_ _|refine bD_ ?_|refine bA_ ?_ _));exact BK146.out) hb);have n2_:=A0_.mk (blk_below (g:=gb147) (o:=.cells #[.int .i64 0,.int .i64 0] 40 (0,0)) (by (with_reducible repeat (first|refine bN_ ?_ _|refine bD_ ?_|refine bA_ ?_ _));exact BK147.out) hb);have n3_:=A0_.mk (IsS98.below (by repeat (first|(with_reducible first|exact HI0.out|apply IsS98.alloc|apply IsS98.drewN|apply IsS98.drew|apply IsS98.set_0|apply IsS98.set_1|apply IsS98.set_2|apply IsS98.set_3|refine IsS98.far ?_ NB0_146.out _|refine IsS98.far ?_ NB0_147.out _|refine IsS98.far ?_ NB0_160.out _)|exact HI0.out)) hb);have n4_:=A0_.mk (blk_below (g:=gb160) (o:=.cells #[.int .i64 (((bt t148 0) - 48) % 256),.slice none 0 0,.slice none 0 0,.slice none 0 0,.int .i64 0] 28 (0,0)) (by (with_reducible repeat (first|refine bN_ ?_ _|refine bD_ ?_|refine bA_ ?_ _));exact BK160.out) hb);have n5_:=A0_.mk (KeepBut.trans (by repeat (first|(with_reducible first|exact HK.out|apply KeepBut.set_|apply keep_drewN|apply keep_drew|apply keep_alloc|refine keep_far ?_ GW146.out _|refine keep_far ?_ GW147.out _|refine keep_far ?_ GW160.out _)|exact HK.out)) (KeepBut.of_below hb g none) (.inl rfl));have n6_:=A0_.mk (below_step (by repeat (first|(with_reducible first|exact HB.out|apply eA_|apply eN_|apply eD_|refine eS_ ?_ (IsS98.ge HI0.out)|refine eS_ ?_ GE146.out|refine eS_ ?_ GE147.out|refine eS_ ?_ GE160.out)|exact HB.out)) hb);clear BK146;clear BK147;clear HI0;clear BK160;clear HK;clear HB;have HO174:=n0_;have BK146:=n1_;have BK147:=n2_;have HI0:=n3_;have BK160:=n4_;have HK:=n5_;have HB:=n6_;clear n0_ n1_ n2_ n3_ n4_ n5_ n6_;(try clear hb);(try clear hb2);(try clear hk);(try clear hi);(try clear ho0)))
     (try simp only [Act.put,List.setIfInBounds_toArray,List.set_cons_zero,List.set_cons_succ])
     go_cut [54] (fun v54 wc => ∃ (kq : Nat) (x54_22 : Bool),v54 = .bool x54_22 ∧ A0_ (stim_reader_one.j1 kq t165 t171 x54_22 t167 t168 t169 t170 (((bt t148 0) - 48) % 256) 0 = some (r1,r2,r3,r4,r5,r6,r7,r8,r9,r10,r11)) ∧ A0_ (kq ≤ kj2) ∧ A0_ (Kd.R k83 83 wc w.heap.size (fun _ => True) v173 t171) ∧ A0_ (wc.heap[gb146]? = some (.cells #[.int .i64 0,(.slice none 0 0),(.slice none 0 0),(.slice none 0 0),.int .i64 0] 28 (0,0))) ∧ A0_ (wc.heap[gb147]? = some (.cells #[.int .i64 0,.int .i64 0] 40 (0,0))) ∧ A0_ (wc.heap[gb160]? = some (.cells #[.int .i64 (((bt t148 0) - 48) % 256),(.slice none 0 0),(.slice none 0 0),(.slice none 0 0),.int .i64 0] 28 (0,0))) ∧ A0_ (IsS98 w0 wc g t167 t168 t169 t170) ∧ A0_ (KeepBut w wc g none) ∧ A0_ (Below w0.heap.size w0 wc))
     case first =>
      have H:=HC23.out
      clear HC23
      by_cases c32 : t166 = true
      ·subst c32
       have H1 : (stim_reader_one.j1 kj2 t165 t171 (!t172) t167 t168 t169 t170 (((bt t148 0) - 48) % 256) 0) = some (r1,r2,r3,r4,r5,r6,r7,r8,r9,r10,r11):=by rw [if_pos rfl] at H;exact H
       clear H
       have H:=H1
       clear H1
       have H':=A0_.mk H
       clear H
       go_wp2
       go_meet
       case rel => exact ⟨_,(!t172),(by first|rfl|(simp;done)|(simp [*];done)),H',⟨by have:=HJ2.out;first|omega|exact Nat.le_refl _⟩,⟨by (with_reducible repeat (first|apply Kd.R_alloc|apply Kd.R_drewN|apply Kd.R_drew));exact HO174.out⟩,⟨by (with_reducible repeat (first|refine bN_ ?_ _|refine bD_ ?_|refine bA_ ?_ _));exact BK146.out⟩,⟨by (with_reducible repeat (first|refine bN_ ?_ _|refine bD_ ?_|refine bA_ ?_ _));exact BK147.out⟩,⟨by (with_reducible repeat (first|refine bN_ ?_ _|refine bD_ ?_|refine bA_ ?_ _));exact BK160.out⟩,⟨by repeat (first|(with_reducible first|exact HI0.out|apply IsS98.alloc|apply IsS98.drewN|apply IsS98.drew|apply IsS98.set_0|apply IsS98.set_1|apply IsS98.set_2|apply IsS98.set_3|refine IsS98.far ?_ NB0_146.out _|refine IsS98.far ?_ NB0_147.out _|refine IsS98.far ?_ NB0_160.out _)|exact HI0.out)⟩,⟨by repeat (first|(with_reducible first|exact HK.out|apply KeepBut.set_|apply keep_drewN|apply keep_drew|apply keep_alloc|refine keep_far ?_ GW146.out _|refine keep_far ?_ GW147.out _|refine keep_far ?_ GW160.out _)|exact HK.out)⟩,⟨by repeat (first|(with_reducible first|exact HB.out|apply eA_|apply eN_|apply eD_|refine eS_ ?_ (IsS98.ge HI0.out)|refine eS_ ?_ GE146.out|refine eS_ ?_ GE147.out|refine eS_ ?_ GE160.out)|exact HB.out)⟩⟩
      ·replace c32:=Bool.eq_false_iff.mpr c32
       subst c32
       have H1 : (stim_reader_one.j1 kj2 t165 t171 true t167 t168 t169 t170 (((bt t148 0) - 48) % 256) 0) = some (r1,r2,r3,r4,r5,r6,r7,r8,r9,r10,r11):=by rw [if_neg (show ¬ (false = true) by decide)] at H;exact H
       clear H
       have H:=H1
       clear H1
       have H':=A0_.mk H
       clear H
       go_wp2
       go_meet
       case rel => exact ⟨_,(true),(by first|rfl|(simp;done)|(simp [*];done)),H',⟨by have:=HJ2.out;first|omega|exact Nat.le_refl _⟩,⟨by (with_reducible repeat (first|apply Kd.R_alloc|apply Kd.R_drewN|apply Kd.R_drew));exact HO174.out⟩,⟨by (with_reducible repeat (first|refine bN_ ?_ _|refine bD_ ?_|refine bA_ ?_ _));exact BK146.out⟩,⟨by (with_reducible repeat (first|refine bN_ ?_ _|refine bD_ ?_|refine bA_ ?_ _));exact BK147.out⟩,⟨by (with_reducible repeat (first|refine bN_ ?_ _|refine bD_ ?_|refine bA_ ?_ _));exact BK160.out⟩,⟨by repeat (first|(with_reducible first|exact HI0.out|apply IsS98.alloc|apply IsS98.drewN|apply IsS98.drew|apply IsS98.set_0|apply IsS98.set_1|apply IsS98.set_2|apply IsS98.set_3|refine IsS98.far ?_ NB0_146.out _|refine IsS98.far ?_ NB0_147.out _|refine IsS98.far ?_ NB0_160.out _)|exact HI0.out)⟩,⟨by repeat (first|(with_reducible first|exact HK.out|apply KeepBut.set_|apply keep_drewN|apply keep_drew|apply keep_alloc|refine keep_far ?_ GW146.out _|refine keep_far ?_ GW147.out _|refine keep_far ?_ GW160.out _)|exact HK.out)⟩,⟨by repeat (first|(with_reducible first|exact HB.out|apply eA_|apply eN_|apply eD_|refine eS_ ?_ (IsS98.ge HI0.out)|refine eS_ ?_ GE146.out|refine eS_ ?_ GE147.out|refine eS_ ?_ GE160.out)|exact HB.out)⟩⟩
     case rest =>
      clear HC23
      try clear c1
      try clear p1
      try clear q1
      try clear hx1
      try clear qi1
      try clear c2
      try clear p2
      try clear c3
      try clear c4
      try clear c7
      try clear c8
      try clear c8b0
      try clear c8b1
      try clear c9
      try clear c9b0
      try clear c9b1
      try clear c10
      try clear c13
      try clear c14
      try clear c16
      try clear c18
      try clear c18b0
      try clear c18b1
      try clear c18b2
      try clear p19
      try clear q19
      try clear hx19
      try clear qi19
      try clear c25
      try clear c26
      try clear c27
      try clear c32
      try clear hcz15_0
      try clear hcz15_1
      try clear hcz15_2
      try clear hcz15_3
      try clear hcz15_4
      try clear hcz17_0
      try clear hcz17_1
      try clear hcz28_0
      try clear hcz28_1
      try clear hcz28_2
      try clear hcz28_3
      try clear hcz28_4
      try clear hfz15_0
      try clear hfz15_1
      try clear hfz15_2
      try clear hfz15_3
      try clear hfz15_4
      try clear hfz17_0
      try clear hfz17_1
      try clear hfz28_0
      try clear hfz28_1
      try clear hfz28_2
      try clear hfz28_3
      try clear hfz28_4
      try clear p19
      try clear p2
      try clear q19
      obtain ⟨kq,x54_22,rfl,HA,HJ22,HO_7,BK146,BK147,BK160,HI0,HK,HB⟩:=hcut
      cases kq with
      |zero => exact absurd HA.out (by simp [stim_reader_one.j1])
      |succ kj22 =>
       have H:=HA.out
       clear HA
       simp only [stim_reader_one.j1] at H
       by_cases c33 : x54_22 = true
       ·subst c33
        have H1 : ((stim_reader_wrong.f t167 t168 t169 t170 121).bind fun bt175 => (some (0,([] : List (S83)),([] : List Bool),([] : List (List Bool)),0,bt175.1,bt175.2.1,bt175.2.2.1,bt175.2.2.2.1,bt175.2.2.2.2.1,bt175.2.2.2.2.2))) = some (r1,r2,r3,r4,r5,r6,r7,r8,r9,r10,r11):=by rw [if_pos rfl] at H;exact H
        clear H
        have H:=H1
        clear H1
        replace H:=Option.bind_eq_some_iff.mp H
        obtain ⟨⟨t175,t176,t177,t178,t179,t180⟩,A340,H⟩:=H
        replace H : (some (0,([] : List (S83)),([] : List Bool),([] : List (List Bool)),0,t175,t176,t177,t178,t179,t180)) = some (r1,r2,r3,r4,r5,r6,r7,r8,r9,r10,r11):=H
        have A34:=A0_.mk A340
        clear A340
        simp only [Option.some.injEq,Prod.mk.injEq] at H
        obtain ⟨rfl,rfl,rfl,rfl,rfl,rfl,rfl,rfl,rfl,rfl,rfl⟩:=H
        go_wp2_with (first|((with_reducible refine gate_callee (f:=48) rfl ?_);refine goesL_ (some 57) rfl rfl Tryd.func48 (by kernel_rfl) rfl #[.pointer (some ⟨g,0,none⟩),.int .i64 121] rfl (by (try simp only [List.map_toArray,List.map_cons,List.map_nil]);first|done|rfl|(simp only [List.length_drop,List.length_take];rfl)) ?_;(with_reducible refine (stim_reader_wrong.calls g t167 t168 t169 t170 121 t175 t176 t177 t178 t179 t180 w0 _ ?side1 ?side2 A34.out).mono ?_);(case side1 => repeat (first|(with_reducible first|exact HI0.out|apply IsS98.alloc|apply IsS98.drewN|apply IsS98.drew|apply IsS98.set_0|apply IsS98.set_1|apply IsS98.set_2|apply IsS98.set_3|refine IsS98.far ?_ NB0_146.out _|refine IsS98.far ?_ NB0_147.out _|refine IsS98.far ?_ NB0_160.out _)|exact HI0.out));(case side2 => repeat (first|(with_reducible first|exact HB.out|apply eA_|apply eN_|apply eD_|refine eS_ ?_ (IsS98.ge HI0.out)|refine eS_ ?_ GE146.out|refine eS_ ?_ GE147.out|refine eS_ ?_ GE160.out)|exact HB.out));rintro e w35 ⟨rfl,hi,hb,hk⟩;refine ⟨_,rfl,?_⟩;have n0_:=A0_.mk (Kd.R_mono (Kd.R_keep (IsS98.apart (show IsS98 w0 _ g t167 t168 t169 t170 from by repeat (first|(with_reducible first|exact HI0.out|apply IsS98.alloc|apply IsS98.drewN|apply IsS98.drew|apply IsS98.set_0|apply IsS98.set_1|apply IsS98.set_2|apply IsS98.set_3|refine IsS98.far ?_ NB0_146.out _|refine IsS98.far ?_ NB0_147.out _|refine IsS98.far ?_ NB0_160.out _)|exact HI0.out)) (by (with_reducible repeat (first|apply Kd.R_alloc|apply Kd.R_drewN|apply Kd.R_drew));exact HO_7.out) (by decide)) hk (fun _ h => h.2)) (fun _ h => h.1));have n1_:=A0_.mk (KeepBut.blk hk (g':=gb146) (o:=.cells #[.int .i64 0,.slice none 0 0,.slice none 0 0,.slice none 0 0,.int .i64 0] 28 (0,0)) (by (with_reducible repeat (first|refine bN_ ?_ _|refine bD_ ?_|refine bA_ ?_ _));exact BK146.out) NB146_0.out (by simp));have n2_:=A0_.mk (KeepBut.blk hk (g':=gb147) (o:=.cells #[.int .i64 0,.int .i64 0] 40 (0,0)) (by (with_reducible repeat (first|refine bN_ ?_ _|refine bD_ ?_|refine bA_ ?_ _));exact BK147.out) NB147_0.out (by simp));have n3_:=A0_.mk (KeepBut.blk hk (g':=gb160) (o:=.cells #[.int .i64 (((bt t148 0) - 48) % 256),.slice none 0 0,.slice none 0 0,.slice none 0 0,.int .i64 0] 28 (0,0)) (by (with_reducible repeat (first|refine bN_ ?_ _|refine bD_ ?_|refine bA_ ?_ _));exact BK160.out) NB160_0.out (by simp));have n4_:=A0_.mk (KeepBut.trans (by repeat (first|(with_reducible first|exact HK.out|apply KeepBut.set_|apply keep_drewN|apply keep_drew|apply keep_alloc|refine keep_far ?_ GW146.out _|refine keep_far ?_ GW147.out _|refine keep_far ?_ GW160.out _)|exact HK.out)) hk (.inl rfl));have n5_:=A0_.mk (hb);have n6_:=A0_.mk (hi);clear HO_7;clear BK146;clear BK147;clear BK160;clear HK;clear HB;clear HI0;have HO_7:=n0_;have BK146:=n1_;have BK147:=n2_;have BK160:=n3_;have HK:=n4_;have HB:=n5_;have HI0:=n6_;clear n0_ n1_ n2_ n3_ n4_ n5_ n6_;(try clear hb);(try clear hb2);(try clear hk);(try clear hi);have hnb36:=NB146_147.out;have hnc36:=NB147_146.out;have hnb37:=NB146_160.out;have hnc37:=NB160_146.out;have hnb38:=NB146_0.out;have hnc38:=NB0_146.out;have hcz39_0 : w35.cell? ⟨gb146,0,none⟩ = some (.int .i64 0):=(bC_ BK146.out 0).trans rfl;have hcz39_1 : w35.cell? ⟨gb146,1,none⟩ = some (.slice none 0 0):=(bC_ BK146.out 1).trans rfl;have hcz39_2 : w35.cell? ⟨gb146,2,none⟩ = some (.slice none 0 0):=(bC_ BK146.out 2).trans rfl;have hcz39_3 : w35.cell? ⟨gb146,3,none⟩ = some (.slice none 0 0):=(bC_ BK146.out 3).trans rfl;have hcz39_4 : w35.cell? ⟨gb146,4,none⟩ = some (.int .i64 0):=(bC_ BK146.out 4).trans rfl;have hfz39_0:=bF_ BK146.out 0;have hfz39_1:=bF_ BK146.out 1;have hfz39_2:=bF_ BK146.out 2;have hfz39_3:=bF_ BK146.out 3;have hfz39_4:=bF_ BK146.out 4;have hnb40:=NB147_160.out;have hnc40:=NB160_147.out;have hnb41:=NB147_0.out;have hnc41:=NB0_147.out;have hcz42_0 : w35.cell? ⟨gb147,0,none⟩ = some (.int .i64 0):=(bC_ BK147.out 0).trans rfl;have hcz42_1 : w35.cell? ⟨gb147,1,none⟩ = some (.int .i64 0):=(bC_ BK147.out 1).trans rfl;have hfz42_0:=bF_ BK147.out 0;have hfz42_1:=bF_ BK147.out 1))
        refine bodyPost_ret (results_cc rfl _ _ gb146 gb147 28 40 #[.int .i64 0,.slice none 0 0,.slice none 0 0,.slice none 0 0,.int .i64 0] #[.int .i64 t175,.int .i64 t176] (0,0) (0,0) _ _ rfl (by (with_reducible repeat (first|refine bN_ ?_ _|refine bD_ ?_|refine bA_ ?_ _));refine blk_far ?_ NB146_147.out _;(with_reducible repeat (first|refine bN_ ?_ _|refine bD_ ?_|refine bA_ ?_ _));refine blk_far ?_ NB146_147.out _;(with_reducible repeat (first|refine bN_ ?_ _|refine bD_ ?_|refine bA_ ?_ _));refine blk_put (cs:=#[.int .i64 0,.slice none 0 0,.slice none 0 0,.slice none 0 0,.int .i64 0]) ?_ 4 _ rfl;(with_reducible repeat (first|refine bN_ ?_ _|refine bD_ ?_|refine bA_ ?_ _));refine blk_put (cs:=#[.int .i64 0,.slice none 0 0,.slice none 0 0,.slice none 0 0,.int .i64 0]) ?_ 3 _ rfl;(with_reducible repeat (first|refine bN_ ?_ _|refine bD_ ?_|refine bA_ ?_ _));refine blk_put (cs:=#[.int .i64 0,.slice none 0 0,.slice none 0 0,.slice none 0 0,.int .i64 0]) ?_ 2 _ rfl;(with_reducible repeat (first|refine bN_ ?_ _|refine bD_ ?_|refine bA_ ?_ _));refine blk_put (cs:=#[.int .i64 0,.slice none 0 0,.slice none 0 0,.slice none 0 0,.int .i64 0]) ?_ 1 _ rfl;(with_reducible repeat (first|refine bN_ ?_ _|refine bD_ ?_|refine bA_ ?_ _));refine blk_put (cs:=#[.int .i64 0,.slice none 0 0,.slice none 0 0,.slice none 0 0,.int .i64 0]) ?_ 0 _ rfl;(with_reducible repeat (first|refine bN_ ?_ _|refine bD_ ?_|refine bA_ ?_ _));exact BK146.out) Tryd.underlying28 rfl (by kernel_rfl) rfl (by (with_reducible repeat (first|refine bN_ ?_ _|refine bD_ ?_|refine bA_ ?_ _));refine blk_put (cs:=#[.int .i64 t175,.int .i64 0]) ?_ 1 _ rfl;(with_reducible repeat (first|refine bN_ ?_ _|refine bD_ ?_|refine bA_ ?_ _));refine blk_put (cs:=#[.int .i64 0,.int .i64 0]) ?_ 0 _ rfl;(with_reducible repeat (first|refine bN_ ?_ _|refine bD_ ?_|refine bA_ ?_ _));refine blk_far ?_ NB147_146.out _;(with_reducible repeat (first|refine bN_ ?_ _|refine bD_ ?_|refine bA_ ?_ _));refine blk_far ?_ NB147_146.out _;(with_reducible repeat (first|refine bN_ ?_ _|refine bD_ ?_|refine bA_ ?_ _));refine blk_far ?_ NB147_146.out _;(with_reducible repeat (first|refine bN_ ?_ _|refine bD_ ?_|refine bA_ ?_ _));refine blk_far ?_ NB147_146.out _;(with_reducible repeat (first|refine bN_ ?_ _|refine bD_ ?_|refine bA_ ?_ _));refine blk_far ?_ NB147_146.out _;(with_reducible repeat (first|refine bN_ ?_ _|refine bD_ ?_|refine bA_ ?_ _));exact BK147.out) Tryd.underlying40 rfl (by kernel_rfl)) rfl ?_
        exact ⟨_,_,_,by first|rfl|(simp [errW_none,errW_some] <;> rfl)|(simp [*,errW_none,errW_some] <;> rfl),by first|exact Kd.R_nil _ _ _ _ _|exact Kd.N_nil _ _ _ _ _|exact Kd.V_nil _ _ _ _ _|exact Kd.Q_nil _ _ _ _ _|exact Kd.S_nil _ _ _ _ _,by first|exact Kd.R_nil _ _ _ _ _|exact Kd.N_nil _ _ _ _ _|exact Kd.V_nil _ _ _ _ _|exact Kd.Q_nil _ _ _ _ _|exact Kd.S_nil _ _ _ _ _,by first|exact Kd.S_nil _ _ _ _ _|exact Kd.N_nil _ _ _ _ _|exact Kd.V_nil _ _ _ _ _|exact Kd.Q_nil _ _ _ _ _|exact Kd.R_nil _ _ _ _ _,by repeat (first|(with_reducible first|exact HI0.out|apply IsS98.alloc|apply IsS98.drewN|apply IsS98.drew|apply IsS98.set_0|apply IsS98.set_1|apply IsS98.set_2|apply IsS98.set_3|refine IsS98.far ?_ NB0_146.out _|refine IsS98.far ?_ NB0_147.out _|refine IsS98.far ?_ NB0_160.out _)|exact HI0.out),by repeat (first|(with_reducible first|exact HB.out|apply eA_|apply eN_|apply eD_|refine eS_ ?_ (IsS98.ge HI0.out)|refine eS_ ?_ GE146.out|refine eS_ ?_ GE147.out|refine eS_ ?_ GE160.out)|exact HB.out),by repeat (first|(with_reducible first|exact HK.out|apply KeepBut.set_|apply keep_drewN|apply keep_drew|apply keep_alloc|refine keep_far ?_ GW146.out _|refine keep_far ?_ GW147.out _|refine keep_far ?_ GW160.out _)|exact HK.out)⟩
       ·replace c33:=Bool.eq_false_iff.mpr c33
        subst c33
        have H1 : ((stim_reader_skip.f t167 t168 t169 t170 t165).bind fun bt181 => (if (((bt t148 0) - 48) % 256) = 1 then ((stim_reader_trace.f kj22 bt181.1 bt181.2.1 bt181.2.2.1 bt181.2.2.2).bind fun bt185 => (if bt185.2.2.2.1 = true then (stim_reader_one.j2 kj22 bt185.2.2.2.2.1 bt185.2.2.2.2.2.1 bt185.2.2.2.2.2.2.1 bt185.2.2.2.2.2.2.2 (((bt t148 0) - 48) % 256) t171 bt185.1 bt185.2.1 bt185.2.2.1) else ((stim_reader_wrong.f bt185.2.2.2.2.1 bt185.2.2.2.2.2.1 bt185.2.2.2.2.2.2.1 bt185.2.2.2.2.2.2.2 3).bind fun bt197 => (some (0,([] : List (S83)),([] : List Bool),([] : List (List Bool)),0,bt197.1,bt197.2.1,bt197.2.2.1,bt197.2.2.2.1,bt197.2.2.2.2.1,bt197.2.2.2.2.2))))) else (stim_reader_one.j2 kj22 bt181.1 bt181.2.1 bt181.2.2.1 bt181.2.2.2 (((bt t148 0) - 48) % 256) t171 ([] : List Bool) ([] : List (List Bool)) 0))) = some (r1,r2,r3,r4,r5,r6,r7,r8,r9,r10,r11):=by rw [if_neg (show ¬ (false = true) by decide)] at H;exact H
        clear H
        have H:=H1
        clear H1
        replace H:=Option.bind_eq_some_iff.mp H
        obtain ⟨⟨t181,t182,t183,t184⟩,A430,H⟩:=H
        replace H : (if (((bt t148 0) - 48) % 256) = 1 then ((stim_reader_trace.f kj22 t181 t182 t183 t184).bind fun bt185 => (if bt185.2.2.2.1 = true then (stim_reader_one.j2 kj22 bt185.2.2.2.2.1 bt185.2.2.2.2.2.1 bt185.2.2.2.2.2.2.1 bt185.2.2.2.2.2.2.2 (((bt t148 0) - 48) % 256) t171 bt185.1 bt185.2.1 bt185.2.2.1) else ((stim_reader_wrong.f bt185.2.2.2.2.1 bt185.2.2.2.2.2.1 bt185.2.2.2.2.2.2.1 bt185.2.2.2.2.2.2.2 3).bind fun bt197 => (some (0,([] : List (S83)),([] : List Bool),([] : List (List Bool)),0,bt197.1,bt197.2.1,bt197.2.2.1,bt197.2.2.2.1,bt197.2.2.2.2.1,bt197.2.2.2.2.2))))) else (stim_reader_one.j2 kj22 t181 t182 t183 t184 (((bt t148 0) - 48) % 256) t171 ([] : List Bool) ([] : List (List Bool)) 0)) = some (r1,r2,r3,r4,r5,r6,r7,r8,r9,r10,r11):=H
        have A43:=A0_.mk A430
        clear A430
        have HC44:=A0_.mk H
        clear H
        obtain ⟨Ao45,co45,eo45⟩:=Kd.R_slice HO_7.out
        subst eo45
        have hnb46:=NB160_146.out
        have hnc46:=NB146_160.out
        have hnb47:=NB160_147.out
        have hnc47:=NB147_160.out
        have hnb48:=NB160_0.out
        have hnc48:=NB0_160.out
        have hcz49_0 : wc.cell? ⟨gb160,0,none⟩ = some (.int .i64 (((bt t148 0) - 48) % 256)):=(bC_ BK160.out 0).trans rfl
        have hcz49_1 : wc.cell? ⟨gb160,1,none⟩ = some (.slice none 0 0):=(bC_ BK160.out 1).trans rfl
        have hcz49_2 : wc.cell? ⟨gb160,2,none⟩ = some (.slice none 0 0):=(bC_ BK160.out 2).trans rfl
        have hcz49_3 : wc.cell? ⟨gb160,3,none⟩ = some (.slice none 0 0):=(bC_ BK160.out 3).trans rfl
        have hcz49_4 : wc.cell? ⟨gb160,4,none⟩ = some (.int .i64 0):=(bC_ BK160.out 4).trans rfl
        have hfz49_0:=bF_ BK160.out 0
        have hfz49_1:=bF_ BK160.out 1
        have hfz49_2:=bF_ BK160.out 2
        have hfz49_3:=bF_ BK160.out 3
        have hfz49_4:=bF_ BK160.out 4
        go_upto_if 65 with (first|((with_reducible refine gate_callee (f:=74) rfl ?_);refine goesL_ (some 62) rfl rfl Tryd.func74 (by kernel_rfl) rfl #[.pointer (some ⟨g,0,none⟩),.string t165] rfl (by (try simp only [List.map_toArray,List.map_cons,List.map_nil]);first|done|rfl|(simp only [List.length_drop,List.length_take];rfl)) ?_;(with_reducible refine (stim_reader_skip.calls g t167 t168 t169 t170 t165 t181 t182 t183 t184 w0 _ ?side1 ?side2 A43.out).mono ?_);(case side1 => repeat (first|(with_reducible first|exact HI0.out|apply IsS98.alloc|apply IsS98.drewN|apply IsS98.drew|apply IsS98.set_0|apply IsS98.set_1|apply IsS98.set_2|apply IsS98.set_3|refine IsS98.far ?_ NB0_146.out _|refine IsS98.far ?_ NB0_147.out _|refine IsS98.far ?_ NB0_160.out _)|exact HI0.out));(case side2 => repeat (first|(with_reducible first|exact HB.out|apply eA_|apply eN_|apply eD_|refine eS_ ?_ (IsS98.ge HI0.out)|refine eS_ ?_ GE146.out|refine eS_ ?_ GE147.out|refine eS_ ?_ GE160.out)|exact HB.out));rintro e w50 ⟨rfl,hi,hb,hk⟩;refine ⟨_,rfl,?_⟩;have n0_:=A0_.mk (Kd.R_mono (Kd.R_keep (IsS98.apart (show IsS98 w0 _ g t167 t168 t169 t170 from by repeat (first|(with_reducible first|exact HI0.out|apply IsS98.alloc|apply IsS98.drewN|apply IsS98.drew|apply IsS98.set_0|apply IsS98.set_1|apply IsS98.set_2|apply IsS98.set_3|refine IsS98.far ?_ NB0_146.out _|refine IsS98.far ?_ NB0_147.out _|refine IsS98.far ?_ NB0_160.out _)|exact HI0.out)) (by (with_reducible repeat (first|apply Kd.R_alloc|apply Kd.R_drewN|apply Kd.R_drew));exact (Kd.R_mono (Kd.R_far (p:=⟨gb160,1,none⟩) (Kd.R_types HO_7.out BK160.out (by decide)) (fun _ hk => hk.2) (.slice Ao45 t171.length co45)) (fun _ h_ => h_.1))) (by decide)) hk (fun _ h => h.2)) (fun _ h => h.1));have n1_:=A0_.mk (KeepBut.blk hk (g':=gb146) (o:=.cells #[.int .i64 0,.slice none 0 0,.slice none 0 0,.slice none 0 0,.int .i64 0] 28 (0,0)) (by (with_reducible repeat (first|refine bN_ ?_ _|refine bD_ ?_|refine bA_ ?_ _));refine blk_far ?_ NB146_160.out _;(with_reducible repeat (first|refine bN_ ?_ _|refine bD_ ?_|refine bA_ ?_ _));exact BK146.out) NB146_0.out (by simp));have n2_:=A0_.mk (KeepBut.blk hk (g':=gb147) (o:=.cells #[.int .i64 0,.int .i64 0] 40 (0,0)) (by (with_reducible repeat (first|refine bN_ ?_ _|refine bD_ ?_|refine bA_ ?_ _));refine blk_far ?_ NB147_160.out _;(with_reducible repeat (first|refine bN_ ?_ _|refine bD_ ?_|refine bA_ ?_ _));exact BK147.out) NB147_0.out (by simp));have n3_:=A0_.mk (KeepBut.blk hk (g':=gb160) (o:=.cells #[.int .i64 (((bt t148 0) - 48) % 256),.slice Ao45 t171.length co45,.slice none 0 0,.slice none 0 0,.int .i64 0] 28 (0,0)) (by (with_reducible repeat (first|refine bN_ ?_ _|refine bD_ ?_|refine bA_ ?_ _));refine blk_put (cs:=#[.int .i64 (((bt t148 0) - 48) % 256),.slice none 0 0,.slice none 0 0,.slice none 0 0,.int .i64 0]) ?_ 1 _ rfl;(with_reducible repeat (first|refine bN_ ?_ _|refine bD_ ?_|refine bA_ ?_ _));exact BK160.out) NB160_0.out (by simp));have n4_:=A0_.mk (KeepBut.trans (by repeat (first|(with_reducible first|exact HK.out|apply KeepBut.set_|apply keep_drewN|apply keep_drew|apply keep_alloc|refine keep_far ?_ GW146.out _|refine keep_far ?_ GW147.out _|refine keep_far ?_ GW160.out _)|exact HK.out)) hk (.inl rfl));have n5_:=A0_.mk (hb);have n6_:=A0_.mk (hi);clear HO_7;clear BK146;clear BK147;clear BK160;clear HK;clear HB;clear HI0;have HO_7:=n0_;have BK146:=n1_;have BK147:=n2_;have BK160:=n3_;have HK:=n4_;have HB:=n5_;have HI0:=n6_;clear n0_ n1_ n2_ n3_ n4_ n5_ n6_;(try clear hb);(try clear hb2);(try clear hk);(try clear hi);have hcz51_0 : w50.cell? ⟨gb160,0,none⟩ = some (.int .i64 (((bt t148 0) - 48) % 256)):=(bC_ BK160.out 0).trans rfl;have hcz51_1 : w50.cell? ⟨gb160,1,none⟩ = some (.slice Ao45 t171.length co45):=(bC_ BK160.out 1).trans rfl;have hcz51_2 : w50.cell? ⟨gb160,2,none⟩ = some (.slice none 0 0):=(bC_ BK160.out 2).trans rfl;have hcz51_3 : w50.cell? ⟨gb160,3,none⟩ = some (.slice none 0 0):=(bC_ BK160.out 3).trans rfl;have hcz51_4 : w50.cell? ⟨gb160,4,none⟩ = some (.int .i64 0):=(bC_ BK160.out 4).trans rfl;have hfz51_0:=bF_ BK160.out 0;have hfz51_1:=bF_ BK160.out 1;have hfz51_2:=bF_ BK160.out 2;have hfz51_3:=bF_ BK160.out 3;have hfz51_4:=bF_ BK160.out 4))
        (try simp only [Act.put,List.setIfInBounds_toArray,List.set_cons_zero,List.set_cons_succ])
        go_cut [] (fun wc => ∃ (kq : Nat) (x1000_43 : ByteArray) (x1001_43 : Int) (x1002_43 : Int) (x1003_43 : Int) (x147000_43 : Int) (x147004_43 : Int) (x148000_43 : Int) (x148001_43 : Int) (x161002_43 : List Bool) (x161003_43 : List (List Bool)) (x161004_43 : Int) (u161002 : Value) (u161003 : Value),A0_ (stim_reader_one.j2 kq x1000_43 x1001_43 x1002_43 x1003_43 (((bt t148 0) - 48) % 256) t171 x161002_43 x161003_43 x161004_43 = some (r1,r2,r3,r4,r5,r6,r7,r8,r9,r10,r11)) ∧ A0_ (kq ≤ kj22) ∧ A0_ (Kd.R k83 83 wc w.heap.size (fun _ => True) (.slice Ao45 t171.length co45) t171) ∧ A0_ (Kd.R Kd.bool 4 wc w.heap.size (fun _ => True) u161002 x161002_43) ∧ A0_ (Kd.S (Kd.slice 4 Kd.bool) 23 wc w.heap.size (fun k_ => some k_ ≠ (u161002 : Value).ownBlock) u161003 x161003_43) ∧ A0_ (wc.heap[gb146]? = some (.cells #[.int .i64 x147000_43,(.slice none 0 0),(.slice none 0 0),(.slice none 0 0),.int .i64 x147004_43] 28 (0,0))) ∧ A0_ (wc.heap[gb147]? = some (.cells #[.int .i64 x148000_43,.int .i64 x148001_43] 40 (0,0))) ∧ A0_ (wc.heap[gb160]? = some (.cells #[.int .i64 (((bt t148 0) - 48) % 256),(.slice Ao45 t171.length co45),u161002,u161003,.int .i64 x161004_43] 28 (0,0))) ∧ A0_ (IsS98 w0 wc g x1000_43 x1001_43 x1002_43 x1003_43) ∧ A0_ (KeepBut w wc g none) ∧ A0_ (Below w0.heap.size w0 wc))
        case first =>
         have H:=HC44.out
         clear HC44
         by_cases c52 : (((bt t148 0) - 48) % 256) = 1
         ·rw [if_pos c52] at H
          have c52b0 : ((((bt t148 0) - 48) % 256) == 1) = true:=beq_iff_eq.mpr c52
          have c52b1 : ((((bt t148 0) - 48) % 256) != 1) = false:=bne_eq_false_iff_eq.mpr c52
          clear c52
          (first|rw [c52b0]|(simp only [i64_w,i32_w];rw [c52b0])|skip)
          replace H:=Option.bind_eq_some_iff.mp H
          obtain ⟨⟨t185,t188,t191,t192,t193,t194,t195,t196⟩,A530,H⟩:=H
          replace H : (if t192 = true then (stim_reader_one.j2 kj22 t193 t194 t195 t196 (((bt t148 0) - 48) % 256) t171 t185 t188 t191) else ((stim_reader_wrong.f t193 t194 t195 t196 3).bind fun bt197 => (some (0,([] : List (S83)),([] : List Bool),([] : List (List Bool)),0,bt197.1,bt197.2.1,bt197.2.2.1,bt197.2.2.2.1,bt197.2.2.2.2.1,bt197.2.2.2.2.2)))) = some (r1,r2,r3,r4,r5,r6,r7,r8,r9,r10,r11):=H
          have A53:=A0_.mk A530
          clear A530
          by_cases c54 : t192 = true
          ·subst c54
           have H1 : (stim_reader_one.j2 kj22 t193 t194 t195 t196 (((bt t148 0) - 48) % 256) t171 t185 t188 t191) = some (r1,r2,r3,r4,r5,r6,r7,r8,r9,r10,r11):=by rw [if_pos rfl] at H;exact H
           clear H
           have H:=H1
           clear H1
           have H':=A0_.mk H
           clear H
           go_wp2_with (first|((with_reducible refine gate_callee (f:=76) rfl ?_);refine goesL_ (some 68) rfl rfl Tryd.func76 (by kernel_rfl) rfl #[.pointer (some ⟨g,0,none⟩)] rfl (by (try simp only [List.map_toArray,List.map_cons,List.map_nil]);first|done|rfl|(simp only [List.length_drop,List.length_take];rfl)) ?_;(with_reducible refine (stim_reader_trace.calls kj22 g t181 t182 t183 t184 t185 t188 t191 true t193 t194 t195 t196 w0 _ ?side3 ?side1 ?side2 A53.out).mono ?_);(case side1 => repeat (first|(with_reducible first|exact HI0.out|apply IsS98.alloc|apply IsS98.drewN|apply IsS98.drew|apply IsS98.set_0|apply IsS98.set_1|apply IsS98.set_2|apply IsS98.set_3|refine IsS98.far ?_ NB0_146.out _|refine IsS98.far ?_ NB0_147.out _|refine IsS98.far ?_ NB0_160.out _)|exact HI0.out));(case side2 => repeat (first|(with_reducible first|exact HB.out|apply eA_|apply eN_|apply eD_|refine eS_ ?_ (IsS98.ge HI0.out)|refine eS_ ?_ GE146.out|refine eS_ ?_ GE147.out|refine eS_ ?_ GE160.out)|exact HB.out));(case side3 => exact HG.out);rintro e w55 ⟨v186,v189,rfl,ho0,ho1,hi,hb,hk⟩;refine ⟨_,rfl,?_⟩;have n0_:=A0_.mk (Kd.R_mono (Kd.R_keep (IsS98.apart (show IsS98 w0 _ g t181 t182 t183 t184 from by repeat (first|(with_reducible first|exact HI0.out|apply IsS98.alloc|apply IsS98.drewN|apply IsS98.drew|apply IsS98.set_0|apply IsS98.set_1|apply IsS98.set_2|apply IsS98.set_3|refine IsS98.far ?_ NB0_146.out _|refine IsS98.far ?_ NB0_147.out _|refine IsS98.far ?_ NB0_160.out _)|exact HI0.out)) (by (with_reducible repeat (first|apply Kd.R_alloc|apply Kd.R_drewN|apply Kd.R_drew));exact HO_7.out) (by decide)) hk (fun _ h => h.2)) (fun _ h => h.1));have n1_:=A0_.mk (KeepBut.blk hk (g':=gb146) (o:=.cells #[.int .i64 0,.slice none 0 0,.slice none 0 0,.slice none 0 0,.int .i64 0] 28 (0,0)) (by (with_reducible repeat (first|refine bN_ ?_ _|refine bD_ ?_|refine bA_ ?_ _));exact BK146.out) NB146_0.out (by simp));have n2_:=A0_.mk (KeepBut.blk hk (g':=gb147) (o:=.cells #[.int .i64 0,.int .i64 0] 40 (0,0)) (by (with_reducible repeat (first|refine bN_ ?_ _|refine bD_ ?_|refine bA_ ?_ _));exact BK147.out) NB147_0.out (by simp));have n3_:=A0_.mk (KeepBut.blk hk (g':=gb160) (o:=.cells #[.int .i64 (((bt t148 0) - 48) % 256),.slice Ao45 t171.length co45,.slice none 0 0,.slice none 0 0,.int .i64 0] 28 (0,0)) (by (with_reducible repeat (first|refine bN_ ?_ _|refine bD_ ?_|refine bA_ ?_ _));exact BK160.out) NB160_0.out (by simp));have n4_:=A0_.mk (Kd.R_lower ho0 (keep_size (w:=w) (g:=g) (row:=none) (by repeat (first|(with_reducible first|exact HK.out|apply KeepBut.set_|apply keep_drewN|apply keep_drew|apply keep_alloc|refine keep_far ?_ GW146.out _|refine keep_far ?_ GW147.out _|refine keep_far ?_ GW160.out _)|exact HK.out))));have n5_:=A0_.mk (Kd.S_lower ho1 (keep_size (w:=w) (g:=g) (row:=none) (by repeat (first|(with_reducible first|exact HK.out|apply KeepBut.set_|apply keep_drewN|apply keep_drew|apply keep_alloc|refine keep_far ?_ GW146.out _|refine keep_far ?_ GW147.out _|refine keep_far ?_ GW160.out _)|exact HK.out))));have n6_:=A0_.mk (KeepBut.trans (by repeat (first|(with_reducible first|exact HK.out|apply KeepBut.set_|apply keep_drewN|apply keep_drew|apply keep_alloc|refine keep_far ?_ GW146.out _|refine keep_far ?_ GW147.out _|refine keep_far ?_ GW160.out _)|exact HK.out)) hk (.inl rfl));have n7_:=A0_.mk (hb);have n8_:=A0_.mk (hi);clear HO_7;clear BK146;clear BK147;clear BK160;clear HK;clear HB;clear HI0;have HO_7:=n0_;have BK146:=n1_;have BK147:=n2_;have BK160:=n3_;have HO187:=n4_;have HO190:=n5_;have HK:=n6_;have HB:=n7_;have HI0:=n8_;clear n0_ n1_ n2_ n3_ n4_ n5_ n6_ n7_ n8_;(try clear hb);(try clear hb2);(try clear hk);(try clear hi);(try clear ho0);(try clear ho1);obtain ⟨Ao56,co56,eo56⟩:=Kd.R_slice HO187.out;subst eo56;have hnb57:=NB160_146.out;have hnc57:=NB146_160.out;have hnb58:=NB160_147.out;have hnc58:=NB147_160.out;have hnb59:=NB160_0.out;have hnc59:=NB0_160.out;have hcz60_0 : w55.cell? ⟨gb160,0,none⟩ = some (.int .i64 (((bt t148 0) - 48) % 256)):=(bC_ BK160.out 0).trans rfl;have hcz60_1 : w55.cell? ⟨gb160,1,none⟩ = some (.slice Ao45 t171.length co45):=(bC_ BK160.out 1).trans rfl;have hcz60_2 : w55.cell? ⟨gb160,2,none⟩ = some (.slice none 0 0):=(bC_ BK160.out 2).trans rfl;have hcz60_3 : w55.cell? ⟨gb160,3,none⟩ = some (.slice none 0 0):=(bC_ BK160.out 3).trans rfl;have hcz60_4 : w55.cell? ⟨gb160,4,none⟩ = some (.int .i64 0):=(bC_ BK160.out 4).trans rfl;have hfz60_0:=bF_ BK160.out 0;have hfz60_1:=bF_ BK160.out 1;have hfz60_2:=bF_ BK160.out 2;have hfz60_3:=bF_ BK160.out 3;have hfz60_4:=bF_ BK160.out 4;obtain ⟨Ao61,co61,eo61⟩:=Kd.S_slice HO190.out;subst eo61))
           go_meet
           case rel => exact ⟨_,(t193),(t194),(t195),(t196),(0),(0),(0),(0),(t185),(t188),(t191),(.slice Ao56 t185.length co56),(.slice Ao61 t188.length co61),H',⟨by have:=HJ2.out;have:=HJ22.out;first|omega|exact Nat.le_refl _⟩,⟨by (with_reducible repeat (first|apply Kd.R_alloc|apply Kd.R_drewN|apply Kd.R_drew));exact Kd.R_mono (Kd.R_far (p:=⟨gb160,4,none⟩) (Kd.R_far (p:=⟨gb160,3,none⟩) (Kd.R_far (p:=⟨gb160,2,none⟩) (Kd.R_types HO_7.out BK160.out (by decide)) (fun _ hk => hk.2) (.slice Ao56 t185.length co56)) (fun _ hk => hk.2) (.slice Ao61 t188.length co61)) (fun _ hk => hk.2) (.int .i64 t191)) (fun _ hk => trivial)⟩,⟨by (with_reducible repeat (first|apply Kd.R_alloc|apply Kd.R_drewN|apply Kd.R_drew));exact Kd.R_mono (Kd.R_far (p:=⟨gb160,4,none⟩) (Kd.R_far (p:=⟨gb160,3,none⟩) (Kd.R_far (p:=⟨gb160,2,none⟩) (Kd.R_types HO187.out BK160.out (by decide)) (fun _ hk => hk.2) (.slice Ao56 t185.length co56)) (fun _ hk => hk.2) (.slice Ao61 t188.length co61)) (fun _ hk => hk.2) (.int .i64 t191)) (fun _ hk => trivial)⟩,⟨by (with_reducible repeat (first|apply Kd.S_alloc|apply Kd.S_drewN|apply Kd.S_drew));exact Kd.S_mono (Kd.S_far (p:=⟨gb160,4,none⟩) (Kd.S_far (p:=⟨gb160,3,none⟩) (Kd.S_far (p:=⟨gb160,2,none⟩) (Kd.S_types HO190.out BK160.out (by decide)) (fun _ hk => hk.2) (.slice Ao56 t185.length co56)) (fun _ hk => hk.2) (.slice Ao61 t188.length co61)) (fun _ hk => hk.2) (.int .i64 t191)) (fun _ hk => hk.1)⟩,⟨by (with_reducible repeat (first|refine bN_ ?_ _|refine bD_ ?_|refine bA_ ?_ _));refine blk_far ?_ NB146_160.out _;(with_reducible repeat (first|refine bN_ ?_ _|refine bD_ ?_|refine bA_ ?_ _));refine blk_far ?_ NB146_160.out _;(with_reducible repeat (first|refine bN_ ?_ _|refine bD_ ?_|refine bA_ ?_ _));refine blk_far ?_ NB146_160.out _;(with_reducible repeat (first|refine bN_ ?_ _|refine bD_ ?_|refine bA_ ?_ _));exact BK146.out⟩,⟨by (with_reducible repeat (first|refine bN_ ?_ _|refine bD_ ?_|refine bA_ ?_ _));refine blk_far ?_ NB147_160.out _;(with_reducible repeat (first|refine bN_ ?_ _|refine bD_ ?_|refine bA_ ?_ _));refine blk_far ?_ NB147_160.out _;(with_reducible repeat (first|refine bN_ ?_ _|refine bD_ ?_|refine bA_ ?_ _));refine blk_far ?_ NB147_160.out _;(with_reducible repeat (first|refine bN_ ?_ _|refine bD_ ?_|refine bA_ ?_ _));exact BK147.out⟩,⟨by (with_reducible repeat (first|refine bN_ ?_ _|refine bD_ ?_|refine bA_ ?_ _));refine blk_put (cs:=#[.int .i64 (((bt t148 0) - 48) % 256),.slice Ao45 t171.length co45,.slice Ao56 t185.length co56,.slice Ao61 t188.length co61,.int .i64 0]) ?_ 4 _ rfl;(with_reducible repeat (first|refine bN_ ?_ _|refine bD_ ?_|refine bA_ ?_ _));refine blk_put (cs:=#[.int .i64 (((bt t148 0) - 48) % 256),.slice Ao45 t171.length co45,.slice Ao56 t185.length co56,.slice none 0 0,.int .i64 0]) ?_ 3 _ rfl;(with_reducible repeat (first|refine bN_ ?_ _|refine bD_ ?_|refine bA_ ?_ _));refine blk_put (cs:=#[.int .i64 (((bt t148 0) - 48) % 256),.slice Ao45 t171.length co45,.slice none 0 0,.slice none 0 0,.int .i64 0]) ?_ 2 _ rfl;(with_reducible repeat (first|refine bN_ ?_ _|refine bD_ ?_|refine bA_ ?_ _));exact BK160.out⟩,⟨by repeat (first|(with_reducible first|exact HI0.out|apply IsS98.alloc|apply IsS98.drewN|apply IsS98.drew|apply IsS98.set_0|apply IsS98.set_1|apply IsS98.set_2|apply IsS98.set_3|refine IsS98.far ?_ NB0_146.out _|refine IsS98.far ?_ NB0_147.out _|refine IsS98.far ?_ NB0_160.out _)|exact HI0.out)⟩,⟨by repeat (first|(with_reducible first|exact HK.out|apply KeepBut.set_|apply keep_drewN|apply keep_drew|apply keep_alloc|refine keep_far ?_ GW146.out _|refine keep_far ?_ GW147.out _|refine keep_far ?_ GW160.out _)|exact HK.out)⟩,⟨by repeat (first|(with_reducible first|exact HB.out|apply eA_|apply eN_|apply eD_|refine eS_ ?_ (IsS98.ge HI0.out)|refine eS_ ?_ GE146.out|refine eS_ ?_ GE147.out|refine eS_ ?_ GE160.out)|exact HB.out)⟩⟩
          ·replace c54:=Bool.eq_false_iff.mpr c54
           subst c54
           have H1 : ((stim_reader_wrong.f t193 t194 t195 t196 3).bind fun bt197 => (some (0,([] : List (S83)),([] : List Bool),([] : List (List Bool)),0,bt197.1,bt197.2.1,bt197.2.2.1,bt197.2.2.2.1,bt197.2.2.2.2.1,bt197.2.2.2.2.2))) = some (r1,r2,r3,r4,r5,r6,r7,r8,r9,r10,r11):=by rw [if_neg (show ¬ (false = true) by decide)] at H;exact H
           clear H
           have H:=H1
           clear H1
           replace H:=Option.bind_eq_some_iff.mp H
           obtain ⟨⟨t197,t198,t199,t200,t201,t202⟩,A620,H⟩:=H
           replace H : (some (0,([] : List (S83)),([] : List Bool),([] : List (List Bool)),0,t197,t198,t199,t200,t201,t202)) = some (r1,r2,r3,r4,r5,r6,r7,r8,r9,r10,r11):=H
           have A62:=A0_.mk A620
           clear A620
           simp only [Option.some.injEq,Prod.mk.injEq] at H
           obtain ⟨rfl,rfl,rfl,rfl,rfl,rfl,rfl,rfl,rfl,rfl,rfl⟩:=H
           go_wp2_with (first|((with_reducible refine gate_callee (f:=76) rfl ?_);refine goesL_ (some 68) rfl rfl Tryd.func76 (by kernel_rfl) rfl #[.pointer (some ⟨g,0,none⟩)] rfl (by (try simp only [List.map_toArray,List.map_cons,List.map_nil]);first|done|rfl|(simp only [List.length_drop,List.length_take];rfl)) ?_;(with_reducible refine (stim_reader_trace.calls kj22 g t181 t182 t183 t184 t185 t188 t191 false t193 t194 t195 t196 w0 _ ?side3 ?side1 ?side2 A53.out).mono ?_);(case side1 => repeat (first|(with_reducible first|exact HI0.out|apply IsS98.alloc|apply IsS98.drewN|apply IsS98.drew|apply IsS98.set_0|apply IsS98.set_1|apply IsS98.set_2|apply IsS98.set_3|refine IsS98.far ?_ NB0_146.out _|refine IsS98.far ?_ NB0_147.out _|refine IsS98.far ?_ NB0_160.out _)|exact HI0.out));(case side2 => repeat (first|(with_reducible first|exact HB.out|apply eA_|apply eN_|apply eD_|refine eS_ ?_ (IsS98.ge HI0.out)|refine eS_ ?_ GE146.out|refine eS_ ?_ GE147.out|refine eS_ ?_ GE160.out)|exact HB.out));(case side3 => exact HG.out);rintro e w63 ⟨v186,v189,rfl,ho0,ho1,hi,hb,hk⟩;refine ⟨_,rfl,?_⟩;have n0_:=A0_.mk (Kd.R_mono (Kd.R_keep (IsS98.apart (show IsS98 w0 _ g t181 t182 t183 t184 from by repeat (first|(with_reducible first|exact HI0.out|apply IsS98.alloc|apply IsS98.drewN|apply IsS98.drew|apply IsS98.set_0|apply IsS98.set_1|apply IsS98.set_2|apply IsS98.set_3|refine IsS98.far ?_ NB0_146.out _|refine IsS98.far ?_ NB0_147.out _|refine IsS98.far ?_ NB0_160.out _)|exact HI0.out)) (by (with_reducible repeat (first|apply Kd.R_alloc|apply Kd.R_drewN|apply Kd.R_drew));exact HO_7.out) (by decide)) hk (fun _ h => h.2)) (fun _ h => h.1));have n1_:=A0_.mk (KeepBut.blk hk (g':=gb146) (o:=.cells #[.int .i64 0,.slice none 0 0,.slice none 0 0,.slice none 0 0,.int .i64 0] 28 (0,0)) (by (with_reducible repeat (first|refine bN_ ?_ _|refine bD_ ?_|refine bA_ ?_ _));exact BK146.out) NB146_0.out (by simp));have n2_:=A0_.mk (KeepBut.blk hk (g':=gb147) (o:=.cells #[.int .i64 0,.int .i64 0] 40 (0,0)) (by (with_reducible repeat (first|refine bN_ ?_ _|refine bD_ ?_|refine bA_ ?_ _));exact BK147.out) NB147_0.out (by simp));have n3_:=A0_.mk (KeepBut.blk hk (g':=gb160) (o:=.cells #[.int .i64 (((bt t148 0) - 48) % 256),.slice Ao45 t171.length co45,.slice none 0 0,.slice none 0 0,.int .i64 0] 28 (0,0)) (by (with_reducible repeat (first|refine bN_ ?_ _|refine bD_ ?_|refine bA_ ?_ _));exact BK160.out) NB160_0.out (by simp));have n4_:=A0_.mk (Kd.R_lower ho0 (keep_size (w:=w) (g:=g) (row:=none) (by repeat (first|(with_reducible first|exact HK.out|apply KeepBut.set_|apply keep_drewN|apply keep_drew|apply keep_alloc|refine keep_far ?_ GW146.out _|refine keep_far ?_ GW147.out _|refine keep_far ?_ GW160.out _)|exact HK.out))));have n5_:=A0_.mk (Kd.S_lower ho1 (keep_size (w:=w) (g:=g) (row:=none) (by repeat (first|(with_reducible first|exact HK.out|apply KeepBut.set_|apply keep_drewN|apply keep_drew|apply keep_alloc|refine keep_far ?_ GW146.out _|refine keep_far ?_ GW147.out _|refine keep_far ?_ GW160.out _)|exact HK.out))));have n6_:=A0_.mk (KeepBut.trans (by repeat (first|(with_reducible first|exact HK.out|apply KeepBut.set_|apply keep_drewN|apply keep_drew|apply keep_alloc|refine keep_far ?_ GW146.out _|refine keep_far ?_ GW147.out _|refine keep_far ?_ GW160.out _)|exact HK.out)) hk (.inl rfl));have n7_:=A0_.mk (hb);have n8_:=A0_.mk (hi);clear HO_7;clear BK146;clear BK147;clear BK160;clear HK;clear HB;clear HI0;have HO_7:=n0_;have BK146:=n1_;have BK147:=n2_;have BK160:=n3_;have HO187:=n4_;have HO190:=n5_;have HK:=n6_;have HB:=n7_;have HI0:=n8_;clear n0_ n1_ n2_ n3_ n4_ n5_ n6_ n7_ n8_;(try clear hb);(try clear hb2);(try clear hk);(try clear hi);(try clear ho0);(try clear ho1);obtain ⟨Ao64,co64,eo64⟩:=Kd.R_slice HO187.out;subst eo64;have hnb65:=NB160_146.out;have hnc65:=NB146_160.out;have hnb66:=NB160_147.out;have hnc66:=NB147_160.out;have hnb67:=NB160_0.out;have hnc67:=NB0_160.out;have hcz68_0 : w63.cell? ⟨gb160,0,none⟩ = some (.int .i64 (((bt t148 0) - 48) % 256)):=(bC_ BK160.out 0).trans rfl;have hcz68_1 : w63.cell? ⟨gb160,1,none⟩ = some (.slice Ao45 t171.length co45):=(bC_ BK160.out 1).trans rfl;have hcz68_2 : w63.cell? ⟨gb160,2,none⟩ = some (.slice none 0 0):=(bC_ BK160.out 2).trans rfl;have hcz68_3 : w63.cell? ⟨gb160,3,none⟩ = some (.slice none 0 0):=(bC_ BK160.out 3).trans rfl;have hcz68_4 : w63.cell? ⟨gb160,4,none⟩ = some (.int .i64 0):=(bC_ BK160.out 4).trans rfl;have hfz68_0:=bF_ BK160.out 0;have hfz68_1:=bF_ BK160.out 1;have hfz68_2:=bF_ BK160.out 2;have hfz68_3:=bF_ BK160.out 3;have hfz68_4:=bF_ BK160.out 4;obtain ⟨Ao69,co69,eo69⟩:=Kd.S_slice HO190.out;subst eo69)|((with_reducible refine gate_callee (f:=48) rfl ?_);refine goesL_ (some 76) rfl rfl Tryd.func48 (by kernel_rfl) rfl #[.pointer (some ⟨g,0,none⟩),.int .i64 3] rfl (by (try simp only [List.map_toArray,List.map_cons,List.map_nil]);first|done|rfl|(simp only [List.length_drop,List.length_take];rfl)) ?_;(with_reducible refine (stim_reader_wrong.calls g t193 t194 t195 t196 3 t197 t198 t199 t200 t201 t202 w0 _ ?side1 ?side2 A62.out).mono ?_);(case side1 => repeat (first|(with_reducible first|exact HI0.out|apply IsS98.alloc|apply IsS98.drewN|apply IsS98.drew|apply IsS98.set_0|apply IsS98.set_1|apply IsS98.set_2|apply IsS98.set_3|refine IsS98.far ?_ NB0_146.out _|refine IsS98.far ?_ NB0_147.out _|refine IsS98.far ?_ NB0_160.out _)|exact HI0.out));(case side2 => repeat (first|(with_reducible first|exact HB.out|apply eA_|apply eN_|apply eD_|refine eS_ ?_ (IsS98.ge HI0.out)|refine eS_ ?_ GE146.out|refine eS_ ?_ GE147.out|refine eS_ ?_ GE160.out)|exact HB.out));rintro e w70 ⟨rfl,hi,hb,hk⟩;refine ⟨_,rfl,?_⟩;have n0_:=A0_.mk (Kd.R_mono (Kd.R_keep (IsS98.apart (show IsS98 w0 _ g t193 t194 t195 t196 from by repeat (first|(with_reducible first|exact HI0.out|apply IsS98.alloc|apply IsS98.drewN|apply IsS98.drew|apply IsS98.set_0|apply IsS98.set_1|apply IsS98.set_2|apply IsS98.set_3|refine IsS98.far ?_ NB0_146.out _|refine IsS98.far ?_ NB0_147.out _|refine IsS98.far ?_ NB0_160.out _)|exact HI0.out)) (by (with_reducible repeat (first|apply Kd.R_alloc|apply Kd.R_drewN|apply Kd.R_drew));exact (Kd.R_mono (Kd.R_far (p:=⟨gb160,4,none⟩) (Kd.R_far (p:=⟨gb160,3,none⟩) (Kd.R_far (p:=⟨gb160,2,none⟩) (Kd.R_types HO_7.out BK160.out (by decide)) (fun _ hk => hk.2) (.slice Ao64 t185.length co64)) (fun _ hk => hk.2) (.slice Ao69 t188.length co69)) (fun _ hk => hk.2) (.int .i64 t191)) (fun _ h_ => h_.1))) (by decide)) hk (fun _ h => h.2)) (fun _ h => h.1));have n1_:=A0_.mk (KeepBut.blk hk (g':=gb146) (o:=.cells #[.int .i64 0,.slice none 0 0,.slice none 0 0,.slice none 0 0,.int .i64 0] 28 (0,0)) (by (with_reducible repeat (first|refine bN_ ?_ _|refine bD_ ?_|refine bA_ ?_ _));refine blk_far ?_ NB146_160.out _;(with_reducible repeat (first|refine bN_ ?_ _|refine bD_ ?_|refine bA_ ?_ _));refine blk_far ?_ NB146_160.out _;(with_reducible repeat (first|refine bN_ ?_ _|refine bD_ ?_|refine bA_ ?_ _));refine blk_far ?_ NB146_160.out _;(with_reducible repeat (first|refine bN_ ?_ _|refine bD_ ?_|refine bA_ ?_ _));exact BK146.out) NB146_0.out (by simp));have n2_:=A0_.mk (KeepBut.blk hk (g':=gb147) (o:=.cells #[.int .i64 0,.int .i64 0] 40 (0,0)) (by (with_reducible repeat (first|refine bN_ ?_ _|refine bD_ ?_|refine bA_ ?_ _));refine blk_far ?_ NB147_160.out _;(with_reducible repeat (first|refine bN_ ?_ _|refine bD_ ?_|refine bA_ ?_ _));refine blk_far ?_ NB147_160.out _;(with_reducible repeat (first|refine bN_ ?_ _|refine bD_ ?_|refine bA_ ?_ _));refine blk_far ?_ NB147_160.out _;(with_reducible repeat (first|refine bN_ ?_ _|refine bD_ ?_|refine bA_ ?_ _));exact BK147.out) NB147_0.out (by simp));have n3_:=A0_.mk (KeepBut.blk hk (g':=gb160) (o:=.cells #[.int .i64 (((bt t148 0) - 48) % 256),.slice Ao45 t171.length co45,.slice Ao64 t185.length co64,.slice Ao69 t188.length co69,.int .i64 t191] 28 (0,0)) (by (with_reducible repeat (first|refine bN_ ?_ _|refine bD_ ?_|refine bA_ ?_ _));refine blk_put (cs:=#[.int .i64 (((bt t148 0) - 48) % 256),.slice Ao45 t171.length co45,.slice Ao64 t185.length co64,.slice Ao69 t188.length co69,.int .i64 0]) ?_ 4 _ rfl;(with_reducible repeat (first|refine bN_ ?_ _|refine bD_ ?_|refine bA_ ?_ _));refine blk_put (cs:=#[.int .i64 (((bt t148 0) - 48) % 256),.slice Ao45 t171.length co45,.slice Ao64 t185.length co64,.slice none 0 0,.int .i64 0]) ?_ 3 _ rfl;(with_reducible repeat (first|refine bN_ ?_ _|refine bD_ ?_|refine bA_ ?_ _));refine blk_put (cs:=#[.int .i64 (((bt t148 0) - 48) % 256),.slice Ao45 t171.length co45,.slice none 0 0,.slice none 0 0,.int .i64 0]) ?_ 2 _ rfl;(with_reducible repeat (first|refine bN_ ?_ _|refine bD_ ?_|refine bA_ ?_ _));exact BK160.out) NB160_0.out (by simp));have n4_:=A0_.mk (Kd.R_mono (Kd.R_keep (IsS98.apart (show IsS98 w0 _ g t193 t194 t195 t196 from by repeat (first|(with_reducible first|exact HI0.out|apply IsS98.alloc|apply IsS98.drewN|apply IsS98.drew|apply IsS98.set_0|apply IsS98.set_1|apply IsS98.set_2|apply IsS98.set_3|refine IsS98.far ?_ NB0_146.out _|refine IsS98.far ?_ NB0_147.out _|refine IsS98.far ?_ NB0_160.out _)|exact HI0.out)) (by (with_reducible repeat (first|apply Kd.R_alloc|apply Kd.R_drewN|apply Kd.R_drew));exact (Kd.R_mono (Kd.R_far (p:=⟨gb160,4,none⟩) (Kd.R_far (p:=⟨gb160,3,none⟩) (Kd.R_far (p:=⟨gb160,2,none⟩) (Kd.R_types HO187.out BK160.out (by decide)) (fun _ hk => hk.2) (.slice Ao64 t185.length co64)) (fun _ hk => hk.2) (.slice Ao69 t188.length co69)) (fun _ hk => hk.2) (.int .i64 t191)) (fun _ h_ => h_.1))) (by decide)) hk (fun _ h => h.2)) (fun _ h => h.1));have n5_:=A0_.mk (Kd.S_mono (Kd.S_keep (IsS98.apartS (show IsS98 w0 _ g t193 t194 t195 t196 from by repeat (first|(with_reducible first|exact HI0.out|apply IsS98.alloc|apply IsS98.drewN|apply IsS98.drew|apply IsS98.set_0|apply IsS98.set_1|apply IsS98.set_2|apply IsS98.set_3|refine IsS98.far ?_ NB0_146.out _|refine IsS98.far ?_ NB0_147.out _|refine IsS98.far ?_ NB0_160.out _)|exact HI0.out)) (by (with_reducible repeat (first|apply Kd.S_alloc|apply Kd.S_drewN|apply Kd.S_drew));exact (Kd.S_mono (Kd.S_far (p:=⟨gb160,4,none⟩) (Kd.S_far (p:=⟨gb160,3,none⟩) (Kd.S_far (p:=⟨gb160,2,none⟩) (Kd.S_types HO190.out BK160.out (by decide)) (fun _ hk => hk.2) (.slice Ao64 t185.length co64)) (fun _ hk => hk.2) (.slice Ao69 t188.length co69)) (fun _ hk => hk.2) (.int .i64 t191)) (fun _ h_ => h_.1))) (by decide)) hk (fun _ h => h.2)) (fun _ h => h.1));have n6_:=A0_.mk (KeepBut.trans (by repeat (first|(with_reducible first|exact HK.out|apply KeepBut.set_|apply keep_drewN|apply keep_drew|apply keep_alloc|refine keep_far ?_ GW146.out _|refine keep_far ?_ GW147.out _|refine keep_far ?_ GW160.out _)|exact HK.out)) hk (.inl rfl));have n7_:=A0_.mk (hb);have n8_:=A0_.mk (hi);clear HO_7;clear BK146;clear BK147;clear BK160;clear HO187;clear HO190;clear HK;clear HB;clear HI0;have HO_7:=n0_;have BK146:=n1_;have BK147:=n2_;have BK160:=n3_;have HO187:=n4_;have HO190:=n5_;have HK:=n6_;have HB:=n7_;have HI0:=n8_;clear n0_ n1_ n2_ n3_ n4_ n5_ n6_ n7_ n8_;(try clear hb);(try clear hb2);(try clear hk);(try clear hi);have hnb71:=NB146_147.out;have hnc71:=NB147_146.out;have hnb72:=NB146_0.out;have hnc72:=NB0_146.out;have hcz73_0 : w70.cell? ⟨gb146,0,none⟩ = some (.int .i64 0):=(bC_ BK146.out 0).trans rfl;have hcz73_1 : w70.cell? ⟨gb146,1,none⟩ = some (.slice none 0 0):=(bC_ BK146.out 1).trans rfl;have hcz73_2 : w70.cell? ⟨gb146,2,none⟩ = some (.slice none 0 0):=(bC_ BK146.out 2).trans rfl;have hcz73_3 : w70.cell? ⟨gb146,3,none⟩ = some (.slice none 0 0):=(bC_ BK146.out 3).trans rfl;have hcz73_4 : w70.cell? ⟨gb146,4,none⟩ = some (.int .i64 0):=(bC_ BK146.out 4).trans rfl;have hfz73_0:=bF_ BK146.out 0;have hfz73_1:=bF_ BK146.out 1;have hfz73_2:=bF_ BK146.out 2;have hfz73_3:=bF_ BK146.out 3;have hfz73_4:=bF_ BK146.out 4;have hnb74:=NB147_0.out;have hnc74:=NB0_147.out;have hcz75_0 : w70.cell? ⟨gb147,0,none⟩ = some (.int .i64 0):=(bC_ BK147.out 0).trans rfl;have hcz75_1 : w70.cell? ⟨gb147,1,none⟩ = some (.int .i64 0):=(bC_ BK147.out 1).trans rfl;have hfz75_0:=bF_ BK147.out 0;have hfz75_1:=bF_ BK147.out 1))
           refine bodyPost_ret (results_cc rfl _ _ gb146 gb147 28 40 #[.int .i64 0,.slice none 0 0,.slice none 0 0,.slice none 0 0,.int .i64 0] #[.int .i64 t197,.int .i64 t198] (0,0) (0,0) _ _ rfl (by (with_reducible repeat (first|refine bN_ ?_ _|refine bD_ ?_|refine bA_ ?_ _));refine blk_far ?_ NB146_147.out _;(with_reducible repeat (first|refine bN_ ?_ _|refine bD_ ?_|refine bA_ ?_ _));refine blk_far ?_ NB146_147.out _;(with_reducible repeat (first|refine bN_ ?_ _|refine bD_ ?_|refine bA_ ?_ _));refine blk_put (cs:=#[.int .i64 0,.slice none 0 0,.slice none 0 0,.slice none 0 0,.int .i64 0]) ?_ 4 _ rfl;(with_reducible repeat (first|refine bN_ ?_ _|refine bD_ ?_|refine bA_ ?_ _));refine blk_put (cs:=#[.int .i64 0,.slice none 0 0,.slice none 0 0,.slice none 0 0,.int .i64 0]) ?_ 3 _ rfl;(with_reducible repeat (first|refine bN_ ?_ _|refine bD_ ?_|refine bA_ ?_ _));refine blk_put (cs:=#[.int .i64 0,.slice none 0 0,.slice none 0 0,.slice none 0 0,.int .i64 0]) ?_ 2 _ rfl;(with_reducible repeat (first|refine bN_ ?_ _|refine bD_ ?_|refine bA_ ?_ _));refine blk_put (cs:=#[.int .i64 0,.slice none 0 0,.slice none 0 0,.slice none 0 0,.int .i64 0]) ?_ 1 _ rfl;(with_reducible repeat (first|refine bN_ ?_ _|refine bD_ ?_|refine bA_ ?_ _));refine blk_put (cs:=#[.int .i64 0,.slice none 0 0,.slice none 0 0,.slice none 0 0,.int .i64 0]) ?_ 0 _ rfl;(with_reducible repeat (first|refine bN_ ?_ _|refine bD_ ?_|refine bA_ ?_ _));exact BK146.out) Tryd.underlying28 rfl (by kernel_rfl) rfl (by (with_reducible repeat (first|refine bN_ ?_ _|refine bD_ ?_|refine bA_ ?_ _));refine blk_put (cs:=#[.int .i64 t197,.int .i64 0]) ?_ 1 _ rfl;(with_reducible repeat (first|refine bN_ ?_ _|refine bD_ ?_|refine bA_ ?_ _));refine blk_put (cs:=#[.int .i64 0,.int .i64 0]) ?_ 0 _ rfl;(with_reducible repeat (first|refine bN_ ?_ _|refine bD_ ?_|refine bA_ ?_ _));refine blk_far ?_ NB147_146.out _;(with_reducible repeat (first|refine bN_ ?_ _|refine bD_ ?_|refine bA_ ?_ _));refine blk_far ?_ NB147_146.out _;(with_reducible repeat (first|refine bN_ ?_ _|refine bD_ ?_|refine bA_ ?_ _));refine blk_far ?_ NB147_146.out _;(with_reducible repeat (first|refine bN_ ?_ _|refine bD_ ?_|refine bA_ ?_ _));refine blk_far ?_ NB147_146.out _;(with_reducible repeat (first|refine bN_ ?_ _|refine bD_ ?_|refine bA_ ?_ _));refine blk_far ?_ NB147_146.out _;(with_reducible repeat (first|refine bN_ ?_ _|refine bD_ ?_|refine bA_ ?_ _));exact BK147.out) Tryd.underlying40 rfl (by kernel_rfl)) rfl ?_
           exact ⟨_,_,_,by first|rfl|(simp [errW_none,errW_some] <;> rfl)|(simp [*,errW_none,errW_some] <;> rfl),by first|exact Kd.R_nil _ _ _ _ _|exact Kd.N_nil _ _ _ _ _|exact Kd.V_nil _ _ _ _ _|exact Kd.Q_nil _ _ _ _ _|exact Kd.S_nil _ _ _ _ _,by first|exact Kd.R_nil _ _ _ _ _|exact Kd.N_nil _ _ _ _ _|exact Kd.V_nil _ _ _ _ _|exact Kd.Q_nil _ _ _ _ _|exact Kd.S_nil _ _ _ _ _,by first|exact Kd.S_nil _ _ _ _ _|exact Kd.N_nil _ _ _ _ _|exact Kd.V_nil _ _ _ _ _|exact Kd.Q_nil _ _ _ _ _|exact Kd.R_nil _ _ _ _ _,by repeat (first|(with_reducible first|exact HI0.out|apply IsS98.alloc|apply IsS98.drewN|apply IsS98.drew|apply IsS98.set_0|apply IsS98.set_1|apply IsS98.set_2|apply IsS98.set_3|refine IsS98.far ?_ NB0_146.out _|refine IsS98.far ?_ NB0_147.out _|refine IsS98.far ?_ NB0_160.out _)|exact HI0.out),by repeat (first|(with_reducible first|exact HB.out|apply eA_|apply eN_|apply eD_|refine eS_ ?_ (IsS98.ge HI0.out)|refine eS_ ?_ GE146.out|refine eS_ ?_ GE147.out|refine eS_ ?_ GE160.out)|exact HB.out),by repeat (first|(with_reducible first|exact HK.out|apply KeepBut.set_|apply keep_drewN|apply keep_drew|apply keep_alloc|refine keep_far ?_ GW146.out _|refine keep_far ?_ GW147.out _|refine keep_far ?_ GW160.out _)|exact HK.out)⟩
         ·rw [if_neg c52] at H
          have c52b0 : ((((bt t148 0) - 48) % 256) == 1) = false:=beq_eq_false_iff_ne.mpr c52
          have c52b1 : ((((bt t148 0) - 48) % 256) != 1) = true:=bne_iff_ne.mpr c52
          (first|rw [c52b0]|(simp only [i64_w,i32_w];rw [c52b0])|skip)
          have H':=A0_.mk H
          clear H
          go_wp2
          go_meet
          case rel => exact ⟨_,(t181),(t182),(t183),(t184),(0),(0),(0),(0),(([] : List Bool)),(([] : List (List Bool))),(0),(.slice none 0 0),(.slice none 0 0),H',⟨by have:=HJ2.out;have:=HJ22.out;first|omega|exact Nat.le_refl _⟩,⟨by (with_reducible repeat (first|apply Kd.R_alloc|apply Kd.R_drewN|apply Kd.R_drew));exact HO_7.out⟩,⟨by first|exact Kd.R_nil _ _ _ _ _|exact Kd.N_nil _ _ _ _ _|exact Kd.V_nil _ _ _ _ _|exact Kd.Q_nil _ _ _ _ _|exact Kd.S_nil _ _ _ _ _⟩,⟨by first|exact Kd.S_nil _ _ _ _ _|exact Kd.N_nil _ _ _ _ _|exact Kd.V_nil _ _ _ _ _|exact Kd.Q_nil _ _ _ _ _|exact Kd.R_nil _ _ _ _ _⟩,⟨by (with_reducible repeat (first|refine bN_ ?_ _|refine bD_ ?_|refine bA_ ?_ _));exact BK146.out⟩,⟨by (with_reducible repeat (first|refine bN_ ?_ _|refine bD_ ?_|refine bA_ ?_ _));exact BK147.out⟩,⟨by (with_reducible repeat (first|refine bN_ ?_ _|refine bD_ ?_|refine bA_ ?_ _));exact BK160.out⟩,⟨by repeat (first|(with_reducible first|exact HI0.out|apply IsS98.alloc|apply IsS98.drewN|apply IsS98.drew|apply IsS98.set_0|apply IsS98.set_1|apply IsS98.set_2|apply IsS98.set_3|refine IsS98.far ?_ NB0_146.out _|refine IsS98.far ?_ NB0_147.out _|refine IsS98.far ?_ NB0_160.out _)|exact HI0.out)⟩,⟨by repeat (first|(with_reducible first|exact HK.out|apply KeepBut.set_|apply keep_drewN|apply keep_drew|apply keep_alloc|refine keep_far ?_ GW146.out _|refine keep_far ?_ GW147.out _|refine keep_far ?_ GW160.out _)|exact HK.out)⟩,⟨by repeat (first|(with_reducible first|exact HB.out|apply eA_|apply eN_|apply eD_|refine eS_ ?_ (IsS98.ge HI0.out)|refine eS_ ?_ GE146.out|refine eS_ ?_ GE147.out|refine eS_ ?_ GE160.out)|exact HB.out)⟩⟩
        case rest =>
         clear HC44
         try clear c1
         try clear p1
         try clear q1
         try clear hx1
         try clear qi1
         try clear c2
         try clear p2
         try clear c3
         try clear c4
         try clear c5
         try clear c6
         try clear c7
         try clear c8
         try clear c8b0
         try clear c8b1
         try clear c9
         try clear c9b0
         try clear c9b1
         try clear c10
         try clear c13
         try clear c14
         try clear c16
         try clear c18
         try clear c18b0
         try clear c18b1
         try clear c18b2
         try clear p19
         try clear q19
         try clear hx19
         try clear qi19
         try clear c25
         try clear c26
         try clear c27
         try clear c32
         try clear c33
         try clear c36
         try clear c37
         try clear c38
         try clear c40
         try clear c41
         try clear c46
         try clear c47
         try clear c48
         try clear c52
         try clear c52b0
         try clear c52b1
         try clear c54
         try clear c57
         try clear c58
         try clear c59
         try clear c65
         try clear c66
         try clear c67
         try clear c71
         try clear c72
         try clear c73
         try clear c74
         try clear c75
         try clear hcz15_0
         try clear hcz15_1
         try clear hcz15_2
         try clear hcz15_3
         try clear hcz15_4
         try clear hcz17_0
         try clear hcz17_1
         try clear hcz28_0
         try clear hcz28_1
         try clear hcz28_2
         try clear hcz28_3
         try clear hcz28_4
         try clear hcz39_0
         try clear hcz39_1
         try clear hcz39_2
         try clear hcz39_3
         try clear hcz39_4
         try clear hcz42_0
         try clear hcz42_1
         try clear hcz49_0
         try clear hcz49_1
         try clear hcz49_2
         try clear hcz49_3
         try clear hcz49_4
         try clear hcz51_0
         try clear hcz51_1
         try clear hcz51_2
         try clear hcz51_3
         try clear hcz51_4
         try clear hcz60_0
         try clear hcz60_1
         try clear hcz60_2
         try clear hcz60_3
         try clear hcz60_4
         try clear hcz68_0
         try clear hcz68_1
         try clear hcz68_2
         try clear hcz68_3
         try clear hcz68_4
         try clear hcz73_0
         try clear hcz73_1
         try clear hcz73_2
         try clear hcz73_3
         try clear hcz73_4
         try clear hcz75_0
         try clear hcz75_1
         try clear hfz15_0
         try clear hfz15_1
         try clear hfz15_2
         try clear hfz15_3
         try clear hfz15_4
         try clear hfz17_0
         try clear hfz17_1
         try clear hfz28_0
         try clear hfz28_1
         try clear hfz28_2
         try clear hfz28_3
         try clear hfz28_4
         try clear hfz39_0
         try clear hfz39_1
         try clear hfz39_2
         try clear hfz39_3
         try clear hfz39_4
         try clear hfz42_0
         try clear hfz42_1
         try clear hfz49_0
         try clear hfz49_1
         try clear hfz49_2
         try clear hfz49_3
         try clear hfz49_4
         try clear hfz51_0
         try clear hfz51_1
         try clear hfz51_2
         try clear hfz51_3
         try clear hfz51_4
         try clear hfz60_0
         try clear hfz60_1
         try clear hfz60_2
         try clear hfz60_3
         try clear hfz60_4
         try clear hfz68_0
         try clear hfz68_1
         try clear hfz68_2
         try clear hfz68_3
         try clear hfz68_4
         try clear hfz73_0
         try clear hfz73_1
         try clear hfz73_2
         try clear hfz73_3
         try clear hfz73_4
         try clear hfz75_0
         try clear hfz75_1
         try clear p1
         try clear p19
         try clear p2
         try clear q1
         try clear q19
         obtain ⟨kq,x1000_43,x1001_43,x1002_43,x1003_43,x147000_43,x147004_43,x148000_43,x148001_43,x161002_43,x161003_43,x161004_43,u161002,u161003,HA,HJ43,HO_161001,HO_161002,HO_161003,BK146,BK147,BK160,HI0,HK,HB⟩:=hcut
         cases kq with
         |zero => exact absurd HA.out (by simp [stim_reader_one.j2])
         |succ kj43 =>
          have H:=HA.out
          clear HA
          simp only [stim_reader_one.j2] at H
          replace H:=Option.bind_eq_some_iff.mp H
          obtain ⟨⟨t203,t204,t205,t206,t207,t208⟩,A760,H⟩:=H
          replace H : (if t204 = true then (stim_reader_one.j3 kj43 t203 (t203.toList != ([46] : List UInt8)) t205 t206 t207 t208 (((bt t148 0) - 48) % 256) t171 x161002_43 x161003_43 x161004_43) else (stim_reader_one.j3 kj43 t203 true t205 t206 t207 t208 (((bt t148 0) - 48) % 256) t171 x161002_43 x161003_43 x161004_43)) = some (r1,r2,r3,r4,r5,r6,r7,r8,r9,r10,r11):=H
          have A76:=A0_.mk A760
          clear A760
          have HC77:=A0_.mk H
          clear H
          go_upto_region 17 with (first|((with_reducible refine gate_callee (f:=73) rfl ?_);refine goesL_ (some 79) rfl rfl Tryd.func73 (by kernel_rfl) rfl #[.pointer (some ⟨g,0,none⟩)] rfl (by (try simp only [List.map_toArray,List.map_cons,List.map_nil]);first|done|rfl|(simp only [List.length_drop,List.length_take];rfl)) ?_;(with_reducible refine (stim_reader_line.calls g x1000_43 x1001_43 x1002_43 x1003_43 t203 t204 t205 t206 t207 t208 w0 _ ?side3 ?side1 ?side2 A76.out).mono ?_);(case side1 => repeat (first|(with_reducible first|exact HI0.out|apply IsS98.alloc|apply IsS98.drewN|apply IsS98.drew|apply IsS98.set_0|apply IsS98.set_1|apply IsS98.set_2|apply IsS98.set_3|refine IsS98.far ?_ NB0_146.out _|refine IsS98.far ?_ NB0_147.out _|refine IsS98.far ?_ NB0_160.out _)|exact HI0.out));(case side2 => repeat (first|(with_reducible first|exact HB.out|apply eA_|apply eN_|apply eD_|refine eS_ ?_ (IsS98.ge HI0.out)|refine eS_ ?_ GE146.out|refine eS_ ?_ GE147.out|refine eS_ ?_ GE160.out)|exact HB.out));(case side3 => exact HG.out);rintro e w78 ⟨rfl,hi,hb,hk⟩;refine ⟨_,rfl,?_⟩;have n0_:=A0_.mk (Kd.R_mono (Kd.R_keep (IsS98.apart (show IsS98 w0 _ g x1000_43 x1001_43 x1002_43 x1003_43 from by repeat (first|(with_reducible first|exact HI0.out|apply IsS98.alloc|apply IsS98.drewN|apply IsS98.drew|apply IsS98.set_0|apply IsS98.set_1|apply IsS98.set_2|apply IsS98.set_3|refine IsS98.far ?_ NB0_146.out _|refine IsS98.far ?_ NB0_147.out _|refine IsS98.far ?_ NB0_160.out _)|exact HI0.out)) (by (with_reducible repeat (first|apply Kd.R_alloc|apply Kd.R_drewN|apply Kd.R_drew));exact HO_161001.out) (by decide)) hk (fun _ h => h.2)) (fun _ h => h.1));have n1_:=A0_.mk (Kd.R_mono (Kd.R_keep (IsS98.apart (show IsS98 w0 _ g x1000_43 x1001_43 x1002_43 x1003_43 from by repeat (first|(with_reducible first|exact HI0.out|apply IsS98.alloc|apply IsS98.drewN|apply IsS98.drew|apply IsS98.set_0|apply IsS98.set_1|apply IsS98.set_2|apply IsS98.set_3|refine IsS98.far ?_ NB0_146.out _|refine IsS98.far ?_ NB0_147.out _|refine IsS98.far ?_ NB0_160.out _)|exact HI0.out)) (by (with_reducible repeat (first|apply Kd.R_alloc|apply Kd.R_drewN|apply Kd.R_drew));exact HO_161002.out) (by decide)) hk (fun _ h => h.2)) (fun _ h => h.1));have n2_:=A0_.mk (Kd.S_mono (Kd.S_keep (IsS98.apartS (show IsS98 w0 _ g x1000_43 x1001_43 x1002_43 x1003_43 from by repeat (first|(with_reducible first|exact HI0.out|apply IsS98.alloc|apply IsS98.drewN|apply IsS98.drew|apply IsS98.set_0|apply IsS98.set_1|apply IsS98.set_2|apply IsS98.set_3|refine IsS98.far ?_ NB0_146.out _|refine IsS98.far ?_ NB0_147.out _|refine IsS98.far ?_ NB0_160.out _)|exact HI0.out)) (by (with_reducible repeat (first|apply Kd.S_alloc|apply Kd.S_drewN|apply Kd.S_drew));exact HO_161003.out) (by decide)) hk (fun _ h => h.2)) (fun _ h => h.1));have n3_:=A0_.mk (KeepBut.blk hk (g':=gb146) (o:=.cells #[.int .i64 x147000_43,.slice none 0 0,.slice none 0 0,.slice none 0 0,.int .i64 x147004_43] 28 (0,0)) (by (with_reducible repeat (first|refine bN_ ?_ _|refine bD_ ?_|refine bA_ ?_ _));exact BK146.out) NB146_0.out (by simp));have n4_:=A0_.mk (KeepBut.blk hk (g':=gb147) (o:=.cells #[.int .i64 x148000_43,.int .i64 x148001_43] 40 (0,0)) (by (with_reducible repeat (first|refine bN_ ?_ _|refine bD_ ?_|refine bA_ ?_ _));exact BK147.out) NB147_0.out (by simp));have n5_:=A0_.mk (KeepBut.blk hk (g':=gb160) (o:=.cells #[.int .i64 (((bt t148 0) - 48) % 256),.slice Ao45 t171.length co45,u161002,u161003,.int .i64 x161004_43] 28 (0,0)) (by (with_reducible repeat (first|refine bN_ ?_ _|refine bD_ ?_|refine bA_ ?_ _));exact BK160.out) NB160_0.out (by simp));have n6_:=A0_.mk (KeepBut.trans (by repeat (first|(with_reducible first|exact HK.out|apply KeepBut.set_|apply keep_drewN|apply keep_drew|apply keep_alloc|refine keep_far ?_ GW146.out _|refine keep_far ?_ GW147.out _|refine keep_far ?_ GW160.out _)|exact HK.out)) hk (.inl rfl));have n7_:=A0_.mk (hb);have n8_:=A0_.mk (hi);clear HO_161001;clear HO_161002;clear HO_161003;clear BK146;clear BK147;clear BK160;clear HK;clear HB;clear HI0;have HO_161001:=n0_;have HO_161002:=n1_;have HO_161003:=n2_;have BK146:=n3_;have BK147:=n4_;have BK160:=n5_;have HK:=n6_;have HB:=n7_;have HI0:=n8_;clear n0_ n1_ n2_ n3_ n4_ n5_ n6_ n7_ n8_;(try clear hb);(try clear hb2);(try clear hk);(try clear hi)))
          (try simp only [Act.put,List.setIfInBounds_toArray,List.set_cons_zero,List.set_cons_succ])
          go_cut [87] (fun v87 wc => ∃ (kq : Nat) (x87_76 : Bool),v87 = .bool x87_76 ∧ A0_ (stim_reader_one.j3 kq t203 x87_76 t205 t206 t207 t208 (((bt t148 0) - 48) % 256) t171 x161002_43 x161003_43 x161004_43 = some (r1,r2,r3,r4,r5,r6,r7,r8,r9,r10,r11)) ∧ A0_ (kq ≤ kj43) ∧ A0_ (Kd.R k83 83 wc w.heap.size (fun _ => True) (.slice Ao45 t171.length co45) t171) ∧ A0_ (Kd.R Kd.bool 4 wc w.heap.size (fun _ => True) u161002 x161002_43) ∧ A0_ (Kd.S (Kd.slice 4 Kd.bool) 23 wc w.heap.size (fun k_ => some k_ ≠ (u161002 : Value).ownBlock) u161003 x161003_43) ∧ A0_ (wc.heap[gb146]? = some (.cells #[.int .i64 x147000_43,(.slice none 0 0),(.slice none 0 0),(.slice none 0 0),.int .i64 x147004_43] 28 (0,0))) ∧ A0_ (wc.heap[gb147]? = some (.cells #[.int .i64 x148000_43,.int .i64 x148001_43] 40 (0,0))) ∧ A0_ (wc.heap[gb160]? = some (.cells #[.int .i64 (((bt t148 0) - 48) % 256),(.slice Ao45 t171.length co45),u161002,u161003,.int .i64 x161004_43] 28 (0,0))) ∧ A0_ (IsS98 w0 wc g t205 t206 t207 t208) ∧ A0_ (KeepBut w wc g none) ∧ A0_ (Below w0.heap.size w0 wc))
          case first =>
           have H:=HC77.out
           clear HC77
           by_cases c79 : t204 = true
           ·subst c79
            have H1 : (stim_reader_one.j3 kj43 t203 (t203.toList != ([46] : List UInt8)) t205 t206 t207 t208 (((bt t148 0) - 48) % 256) t171 x161002_43 x161003_43 x161004_43) = some (r1,r2,r3,r4,r5,r6,r7,r8,r9,r10,r11):=by rw [if_pos rfl] at H;exact H
            clear H
            have H:=H1
            clear H1
            have H':=A0_.mk H
            clear H
            go_wp2
            go_meet
            case rel => exact ⟨_,((t203.toList != ([46] : List UInt8))),(by first|rfl|(simp;done)|(simp [*];done)),H',⟨by have:=HJ2.out;have:=HJ22.out;have:=HJ43.out;first|omega|exact Nat.le_refl _⟩,⟨by (with_reducible repeat (first|apply Kd.R_alloc|apply Kd.R_drewN|apply Kd.R_drew));exact HO_161001.out⟩,⟨by (with_reducible repeat (first|apply Kd.R_alloc|apply Kd.R_drewN|apply Kd.R_drew));exact HO_161002.out⟩,⟨by (with_reducible repeat (first|apply Kd.S_alloc|apply Kd.S_drewN|apply Kd.S_drew));exact HO_161003.out⟩,⟨by (with_reducible repeat (first|refine bN_ ?_ _|refine bD_ ?_|refine bA_ ?_ _));exact BK146.out⟩,⟨by (with_reducible repeat (first|refine bN_ ?_ _|refine bD_ ?_|refine bA_ ?_ _));exact BK147.out⟩,⟨by (with_reducible repeat (first|refine bN_ ?_ _|refine bD_ ?_|refine bA_ ?_ _));exact BK160.out⟩,⟨by repeat (first|(with_reducible first|exact HI0.out|apply IsS98.alloc|apply IsS98.drewN|apply IsS98.drew|apply IsS98.set_0|apply IsS98.set_1|apply IsS98.set_2|apply IsS98.set_3|refine IsS98.far ?_ NB0_146.out _|refine IsS98.far ?_ NB0_147.out _|refine IsS98.far ?_ NB0_160.out _)|exact HI0.out)⟩,⟨by repeat (first|(with_reducible first|exact HK.out|apply KeepBut.set_|apply keep_drewN|apply keep_drew|apply keep_alloc|refine keep_far ?_ GW146.out _|refine keep_far ?_ GW147.out _|refine keep_far ?_ GW160.out _)|exact HK.out)⟩,⟨by repeat (first|(with_reducible first|exact HB.out|apply eA_|apply eN_|apply eD_|refine eS_ ?_ (IsS98.ge HI0.out)|refine eS_ ?_ GE146.out|refine eS_ ?_ GE147.out|refine eS_ ?_ GE160.out)|exact HB.out)⟩⟩
           ·replace c79:=Bool.eq_false_iff.mpr c79
            subst c79
            have H1 : (stim_reader_one.j3 kj43 t203 true t205 t206 t207 t208 (((bt t148 0) - 48) % 256) t171 x161002_43 x161003_43 x161004_43) = some (r1,r2,r3,r4,r5,r6,r7,r8,r9,r10,r11):=by rw [if_neg (show ¬ (false = true) by decide)] at H;exact H
            clear H
            have H:=H1
            clear H1
            have H':=A0_.mk H
            clear H
            go_wp2
            go_meet
            case rel => exact ⟨_,(true),(by first|rfl|(simp;done)|(simp [*];done)),H',⟨by have:=HJ2.out;have:=HJ22.out;have:=HJ43.out;first|omega|exact Nat.le_refl _⟩,⟨by (with_reducible repeat (first|apply Kd.R_alloc|apply Kd.R_drewN|apply Kd.R_drew));exact HO_161001.out⟩,⟨by (with_reducible repeat (first|apply Kd.R_alloc|apply Kd.R_drewN|apply Kd.R_drew));exact HO_161002.out⟩,⟨by (with_reducible repeat (first|apply Kd.S_alloc|apply Kd.S_drewN|apply Kd.S_drew));exact HO_161003.out⟩,⟨by (with_reducible repeat (first|refine bN_ ?_ _|refine bD_ ?_|refine bA_ ?_ _));exact BK146.out⟩,⟨by (with_reducible repeat (first|refine bN_ ?_ _|refine bD_ ?_|refine bA_ ?_ _));exact BK147.out⟩,⟨by (with_reducible repeat (first|refine bN_ ?_ _|refine bD_ ?_|refine bA_ ?_ _));exact BK160.out⟩,⟨by repeat (first|(with_reducible first|exact HI0.out|apply IsS98.alloc|apply IsS98.drewN|apply IsS98.drew|apply IsS98.set_0|apply IsS98.set_1|apply IsS98.set_2|apply IsS98.set_3|refine IsS98.far ?_ NB0_146.out _|refine IsS98.far ?_ NB0_147.out _|refine IsS98.far ?_ NB0_160.out _)|exact HI0.out)⟩,⟨by repeat (first|(with_reducible first|exact HK.out|apply KeepBut.set_|apply keep_drewN|apply keep_drew|apply keep_alloc|refine keep_far ?_ GW146.out _|refine keep_far ?_ GW147.out _|refine keep_far ?_ GW160.out _)|exact HK.out)⟩,⟨by repeat (first|(with_reducible first|exact HB.out|apply eA_|apply eN_|apply eD_|refine eS_ ?_ (IsS98.ge HI0.out)|refine eS_ ?_ GE146.out|refine eS_ ?_ GE147.out|refine eS_ ?_ GE160.out)|exact HB.out)⟩⟩
          case rest =>
           clear HC77
           try clear c1
           try clear p1
           try clear q1
           try clear hx1
           try clear qi1
           try clear c2
           try clear p2
           try clear c3
           try clear c4
           try clear c5
           try clear c6
           try clear c7
           try clear c8
           try clear c8b0
           try clear c8b1
           try clear c9
           try clear c9b0
           try clear c9b1
           try clear c10
           try clear c13
           try clear c14
           try clear c16
           try clear c18
           try clear c18b0
           try clear c18b1
           try clear c18b2
           try clear p19
           try clear q19
           try clear hx19
           try clear qi19
           try clear c25
           try clear c26
           try clear c27
           try clear c32
           try clear c33
           try clear c36
           try clear c37
           try clear c38
           try clear c40
           try clear c41
           try clear c46
           try clear c47
           try clear c48
           try clear c52
           try clear c52b0
           try clear c52b1
           try clear c54
           try clear c57
           try clear c58
           try clear c59
           try clear c65
           try clear c66
           try clear c67
           try clear c71
           try clear c72
           try clear c73
           try clear c74
           try clear c75
           try clear c76
           try clear c79
           try clear hcz15_0
           try clear hcz15_1
           try clear hcz15_2
           try clear hcz15_3
           try clear hcz15_4
           try clear hcz17_0
           try clear hcz17_1
           try clear hcz28_0
           try clear hcz28_1
           try clear hcz28_2
           try clear hcz28_3
           try clear hcz28_4
           try clear hcz39_0
           try clear hcz39_1
           try clear hcz39_2
           try clear hcz39_3
           try clear hcz39_4
           try clear hcz42_0
           try clear hcz42_1
           try clear hcz49_0
           try clear hcz49_1
           try clear hcz49_2
           try clear hcz49_3
           try clear hcz49_4
           try clear hcz51_0
           try clear hcz51_1
           try clear hcz51_2
           try clear hcz51_3
           try clear hcz51_4
           try clear hcz60_0
           try clear hcz60_1
           try clear hcz60_2
           try clear hcz60_3
           try clear hcz60_4
           try clear hcz68_0
           try clear hcz68_1
           try clear hcz68_2
           try clear hcz68_3
           try clear hcz68_4
           try clear hcz73_0
           try clear hcz73_1
           try clear hcz73_2
           try clear hcz73_3
           try clear hcz73_4
           try clear hcz75_0
           try clear hcz75_1
           try clear hfz15_0
           try clear hfz15_1
           try clear hfz15_2
           try clear hfz15_3
           try clear hfz15_4
           try clear hfz17_0
           try clear hfz17_1
           try clear hfz28_0
           try clear hfz28_1
           try clear hfz28_2
           try clear hfz28_3
           try clear hfz28_4
           try clear hfz39_0
           try clear hfz39_1
           try clear hfz39_2
           try clear hfz39_3
           try clear hfz39_4
           try clear hfz42_0
           try clear hfz42_1
           try clear hfz49_0
           try clear hfz49_1
           try clear hfz49_2
           try clear hfz49_3
           try clear hfz49_4
           try clear hfz51_0
           try clear hfz51_1
           try clear hfz51_2
           try clear hfz51_3
           try clear hfz51_4
           try clear hfz60_0
           try clear hfz60_1
           try clear hfz60_2
           try clear hfz60_3
           try clear hfz60_4
           try clear hfz68_0
           try clear hfz68_1
           try clear hfz68_2
           try clear hfz68_3
           try clear hfz68_4
           try clear hfz73_0
           try clear hfz73_1
           try clear hfz73_2
           try clear hfz73_3
           try clear hfz73_4
           try clear hfz75_0
           try clear hfz75_1
           try clear p1
           try clear p19
           try clear p2
           try clear q1
           try clear q19
           obtain ⟨kq,x87_76,rfl,HA,HJ76,HO_161001,HO_161002,HO_161003,BK146,BK147,BK160,HI0,HK,HB⟩:=hcut
           cases kq with
           |zero => exact absurd HA.out (by simp [stim_reader_one.j3])
           |succ kj76 =>
            have H:=HA.out
            clear HA
            simp only [stim_reader_one.j3] at H
            by_cases c80 : x87_76 = true
            ·subst c80
             have H1 : ((stim_reader_wrong.f t205 t206 t207 t208 3).bind fun bt209 => (some (0,([] : List (S83)),([] : List Bool),([] : List (List Bool)),0,bt209.1,bt209.2.1,bt209.2.2.1,bt209.2.2.2.1,bt209.2.2.2.2.1,bt209.2.2.2.2.2))) = some (r1,r2,r3,r4,r5,r6,r7,r8,r9,r10,r11):=by rw [if_pos rfl] at H;exact H
             clear H
             have H:=H1
             clear H1
             replace H:=Option.bind_eq_some_iff.mp H
             obtain ⟨⟨t209,t210,t211,t212,t213,t214⟩,A810,H⟩:=H
             replace H : (some (0,([] : List (S83)),([] : List Bool),([] : List (List Bool)),0,t209,t210,t211,t212,t213,t214)) = some (r1,r2,r3,r4,r5,r6,r7,r8,r9,r10,r11):=H
             have A81:=A0_.mk A810
             clear A810
             simp only [Option.some.injEq,Prod.mk.injEq] at H
             obtain ⟨rfl,rfl,rfl,rfl,rfl,rfl,rfl,rfl,rfl,rfl,rfl⟩:=H
             go_wp2_with (first|((with_reducible refine gate_callee (f:=48) rfl ?_);refine goesL_ (some 90) rfl rfl Tryd.func48 (by kernel_rfl) rfl #[.pointer (some ⟨g,0,none⟩),.int .i64 3] rfl (by (try simp only [List.map_toArray,List.map_cons,List.map_nil]);first|done|rfl|(simp only [List.length_drop,List.length_take];rfl)) ?_;(with_reducible refine (stim_reader_wrong.calls g t205 t206 t207 t208 3 t209 t210 t211 t212 t213 t214 w0 _ ?side1 ?side2 A81.out).mono ?_);(case side1 => repeat (first|(with_reducible first|exact HI0.out|apply IsS98.alloc|apply IsS98.drewN|apply IsS98.drew|apply IsS98.set_0|apply IsS98.set_1|apply IsS98.set_2|apply IsS98.set_3|refine IsS98.far ?_ NB0_146.out _|refine IsS98.far ?_ NB0_147.out _|refine IsS98.far ?_ NB0_160.out _)|exact HI0.out));(case side2 => repeat (first|(with_reducible first|exact HB.out|apply eA_|apply eN_|apply eD_|refine eS_ ?_ (IsS98.ge HI0.out)|refine eS_ ?_ GE146.out|refine eS_ ?_ GE147.out|refine eS_ ?_ GE160.out)|exact HB.out));rintro e w82 ⟨rfl,hi,hb,hk⟩;refine ⟨_,rfl,?_⟩;have n0_:=A0_.mk (Kd.R_mono (Kd.R_keep (IsS98.apart (show IsS98 w0 _ g t205 t206 t207 t208 from by repeat (first|(with_reducible first|exact HI0.out|apply IsS98.alloc|apply IsS98.drewN|apply IsS98.drew|apply IsS98.set_0|apply IsS98.set_1|apply IsS98.set_2|apply IsS98.set_3|refine IsS98.far ?_ NB0_146.out _|refine IsS98.far ?_ NB0_147.out _|refine IsS98.far ?_ NB0_160.out _)|exact HI0.out)) (by (with_reducible repeat (first|apply Kd.R_alloc|apply Kd.R_drewN|apply Kd.R_drew));exact HO_161001.out) (by decide)) hk (fun _ h => h.2)) (fun _ h => h.1));have n1_:=A0_.mk (Kd.R_mono (Kd.R_keep (IsS98.apart (show IsS98 w0 _ g t205 t206 t207 t208 from by repeat (first|(with_reducible first|exact HI0.out|apply IsS98.alloc|apply IsS98.drewN|apply IsS98.drew|apply IsS98.set_0|apply IsS98.set_1|apply IsS98.set_2|apply IsS98.set_3|refine IsS98.far ?_ NB0_146.out _|refine IsS98.far ?_ NB0_147.out _|refine IsS98.far ?_ NB0_160.out _)|exact HI0.out)) (by (with_reducible repeat (first|apply Kd.R_alloc|apply Kd.R_drewN|apply Kd.R_drew));exact HO_161002.out) (by decide)) hk (fun _ h => h.2)) (fun _ h => h.1));have n2_:=A0_.mk (Kd.S_mono (Kd.S_keep (IsS98.apartS (show IsS98 w0 _ g t205 t206 t207 t208 from by repeat (first|(with_reducible first|exact HI0.out|apply IsS98.alloc|apply IsS98.drewN|apply IsS98.drew|apply IsS98.set_0|apply IsS98.set_1|apply IsS98.set_2|apply IsS98.set_3|refine IsS98.far ?_ NB0_146.out _|refine IsS98.far ?_ NB0_147.out _|refine IsS98.far ?_ NB0_160.out _)|exact HI0.out)) (by (with_reducible repeat (first|apply Kd.S_alloc|apply Kd.S_drewN|apply Kd.S_drew));exact HO_161003.out) (by decide)) hk (fun _ h => h.2)) (fun _ h => h.1));have n3_:=A0_.mk (KeepBut.blk hk (g':=gb146) (o:=.cells #[.int .i64 x147000_43,.slice none 0 0,.slice none 0 0,.slice none 0 0,.int .i64 x147004_43] 28 (0,0)) (by (with_reducible repeat (first|refine bN_ ?_ _|refine bD_ ?_|refine bA_ ?_ _));exact BK146.out) NB146_0.out (by simp));have n4_:=A0_.mk (KeepBut.blk hk (g':=gb147) (o:=.cells #[.int .i64 x148000_43,.int .i64 x148001_43] 40 (0,0)) (by (with_reducible repeat (first|refine bN_ ?_ _|refine bD_ ?_|refine bA_ ?_ _));exact BK147.out) NB147_0.out (by simp));have n5_:=A0_.mk (KeepBut.blk hk (g':=gb160) (o:=.cells #[.int .i64 (((bt t148 0) - 48) % 256),.slice Ao45 t171.length co45,u161002,u161003,.int .i64 x161004_43] 28 (0,0)) (by (with_reducible repeat (first|refine bN_ ?_ _|refine bD_ ?_|refine bA_ ?_ _));exact BK160.out) NB160_0.out (by simp));have n6_:=A0_.mk (KeepBut.trans (by repeat (first|(with_reducible first|exact HK.out|apply KeepBut.set_|apply keep_drewN|apply keep_drew|apply keep_alloc|refine keep_far ?_ GW146.out _|refine keep_far ?_ GW147.out _|refine keep_far ?_ GW160.out _)|exact HK.out)) hk (.inl rfl));have n7_:=A0_.mk (hb);have n8_:=A0_.mk (hi);clear HO_161001;clear HO_161002;clear HO_161003;clear BK146;clear BK147;clear BK160;clear HK;clear HB;clear HI0;have HO_161001:=n0_;have HO_161002:=n1_;have HO_161003:=n2_;have BK146:=n3_;have BK147:=n4_;have BK160:=n5_;have HK:=n6_;have HB:=n7_;have HI0:=n8_;clear n0_ n1_ n2_ n3_ n4_ n5_ n6_ n7_ n8_;(try clear hb);(try clear hb2);(try clear hk);(try clear hi);have hnb83:=NB146_147.out;have hnc83:=NB147_146.out;have hnb84:=NB146_160.out;have hnc84:=NB160_146.out;have hnb85:=NB146_0.out;have hnc85:=NB0_146.out;have hcz86_0 : w82.cell? ⟨gb146,0,none⟩ = some (.int .i64 x147000_43):=(bC_ BK146.out 0).trans rfl;have hcz86_1 : w82.cell? ⟨gb146,1,none⟩ = some (.slice none 0 0):=(bC_ BK146.out 1).trans rfl;have hcz86_2 : w82.cell? ⟨gb146,2,none⟩ = some (.slice none 0 0):=(bC_ BK146.out 2).trans rfl;have hcz86_3 : w82.cell? ⟨gb146,3,none⟩ = some (.slice none 0 0):=(bC_ BK146.out 3).trans rfl;have hcz86_4 : w82.cell? ⟨gb146,4,none⟩ = some (.int .i64 x147004_43):=(bC_ BK146.out 4).trans rfl;have hfz86_0:=bF_ BK146.out 0;have hfz86_1:=bF_ BK146.out 1;have hfz86_2:=bF_ BK146.out 2;have hfz86_3:=bF_ BK146.out 3;have hfz86_4:=bF_ BK146.out 4;have hnb87:=NB147_160.out;have hnc87:=NB160_147.out;have hnb88:=NB147_0.out;have hnc88:=NB0_147.out;have hcz89_0 : w82.cell? ⟨gb147,0,none⟩ = some (.int .i64 x148000_43):=(bC_ BK147.out 0).trans rfl;have hcz89_1 : w82.cell? ⟨gb147,1,none⟩ = some (.int .i64 x148001_43):=(bC_ BK147.out 1).trans rfl;have hfz89_0:=bF_ BK147.out 0;have hfz89_1:=bF_ BK147.out 1))
             refine bodyPost_ret (results_cc rfl _ _ gb146 gb147 28 40 #[.int .i64 0,.slice none 0 0,.slice none 0 0,.slice none 0 0,.int .i64 0] #[.int .i64 t209,.int .i64 t210] (0,0) (0,0) _ _ rfl (by (with_reducible repeat (first|refine bN_ ?_ _|refine bD_ ?_|refine bA_ ?_ _));refine blk_far ?_ NB146_147.out _;(with_reducible repeat (first|refine bN_ ?_ _|refine bD_ ?_|refine bA_ ?_ _));refine blk_far ?_ NB146_147.out _;(with_reducible repeat (first|refine bN_ ?_ _|refine bD_ ?_|refine bA_ ?_ _));refine blk_put (cs:=#[.int .i64 0,.slice none 0 0,.slice none 0 0,.slice none 0 0,.int .i64 x147004_43]) ?_ 4 _ rfl;(with_reducible repeat (first|refine bN_ ?_ _|refine bD_ ?_|refine bA_ ?_ _));refine blk_put (cs:=#[.int .i64 0,.slice none 0 0,.slice none 0 0,.slice none 0 0,.int .i64 x147004_43]) ?_ 3 _ rfl;(with_reducible repeat (first|refine bN_ ?_ _|refine bD_ ?_|refine bA_ ?_ _));refine blk_put (cs:=#[.int .i64 0,.slice none 0 0,.slice none 0 0,.slice none 0 0,.int .i64 x147004_43]) ?_ 2 _ rfl;(with_reducible repeat (first|refine bN_ ?_ _|refine bD_ ?_|refine bA_ ?_ _));refine blk_put (cs:=#[.int .i64 0,.slice none 0 0,.slice none 0 0,.slice none 0 0,.int .i64 x147004_43]) ?_ 1 _ rfl;(with_reducible repeat (first|refine bN_ ?_ _|refine bD_ ?_|refine bA_ ?_ _));refine blk_put (cs:=#[.int .i64 x147000_43,.slice none 0 0,.slice none 0 0,.slice none 0 0,.int .i64 x147004_43]) ?_ 0 _ rfl;(with_reducible repeat (first|refine bN_ ?_ _|refine bD_ ?_|refine bA_ ?_ _));exact BK146.out) Tryd.underlying28 rfl (by kernel_rfl) rfl (by (with_reducible repeat (first|refine bN_ ?_ _|refine bD_ ?_|refine bA_ ?_ _));refine blk_put (cs:=#[.int .i64 t209,.int .i64 x148001_43]) ?_ 1 _ rfl;(with_reducible repeat (first|refine bN_ ?_ _|refine bD_ ?_|refine bA_ ?_ _));refine blk_put (cs:=#[.int .i64 x148000_43,.int .i64 x148001_43]) ?_ 0 _ rfl;(with_reducible repeat (first|refine bN_ ?_ _|refine bD_ ?_|refine bA_ ?_ _));refine blk_far ?_ NB147_146.out _;(with_reducible repeat (first|refine bN_ ?_ _|refine bD_ ?_|refine bA_ ?_ _));refine blk_far ?_ NB147_146.out _;(with_reducible repeat (first|refine bN_ ?_ _|refine bD_ ?_|refine bA_ ?_ _));refine blk_far ?_ NB147_146.out _;(with_reducible repeat (first|refine bN_ ?_ _|refine bD_ ?_|refine bA_ ?_ _));refine blk_far ?_ NB147_146.out _;(with_reducible repeat (first|refine bN_ ?_ _|refine bD_ ?_|refine bA_ ?_ _));refine blk_far ?_ NB147_146.out _;(with_reducible repeat (first|refine bN_ ?_ _|refine bD_ ?_|refine bA_ ?_ _));exact BK147.out) Tryd.underlying40 rfl (by kernel_rfl)) rfl ?_
             exact ⟨_,_,_,by first|rfl|(simp [errW_none,errW_some] <;> rfl)|(simp [*,errW_none,errW_some] <;> rfl),by first|exact Kd.R_nil _ _ _ _ _|exact Kd.N_nil _ _ _ _ _|exact Kd.V_nil _ _ _ _ _|exact Kd.Q_nil _ _ _ _ _|exact Kd.S_nil _ _ _ _ _,by first|exact Kd.R_nil _ _ _ _ _|exact Kd.N_nil _ _ _ _ _|exact Kd.V_nil _ _ _ _ _|exact Kd.Q_nil _ _ _ _ _|exact Kd.S_nil _ _ _ _ _,by first|exact Kd.S_nil _ _ _ _ _|exact Kd.N_nil _ _ _ _ _|exact Kd.V_nil _ _ _ _ _|exact Kd.Q_nil _ _ _ _ _|exact Kd.R_nil _ _ _ _ _,by repeat (first|(with_reducible first|exact HI0.out|apply IsS98.alloc|apply IsS98.drewN|apply IsS98.drew|apply IsS98.set_0|apply IsS98.set_1|apply IsS98.set_2|apply IsS98.set_3|refine IsS98.far ?_ NB0_146.out _|refine IsS98.far ?_ NB0_147.out _|refine IsS98.far ?_ NB0_160.out _)|exact HI0.out),by repeat (first|(with_reducible first|exact HB.out|apply eA_|apply eN_|apply eD_|refine eS_ ?_ (IsS98.ge HI0.out)|refine eS_ ?_ GE146.out|refine eS_ ?_ GE147.out|refine eS_ ?_ GE160.out)|exact HB.out),by repeat (first|(with_reducible first|exact HK.out|apply KeepBut.set_|apply keep_drewN|apply keep_drew|apply keep_alloc|refine keep_far ?_ GW146.out _|refine keep_far ?_ GW147.out _|refine keep_far ?_ GW160.out _)|exact HK.out)⟩
            ·replace c80:=Bool.eq_false_iff.mpr c80
             subst c80
             have H1 : ((stim_reader_skip.f t205 t206 t207 t208 t203).bind fun bt215 => (some ((((bt t148 0) - 48) % 256),t171,x161002_43,x161003_43,x161004_43,0,0,bt215.1,bt215.2.1,bt215.2.2.1,bt215.2.2.2))) = some (r1,r2,r3,r4,r5,r6,r7,r8,r9,r10,r11):=by rw [if_neg (show ¬ (false = true) by decide)] at H;exact H
             clear H
             have H:=H1
             clear H1
             replace H:=Option.bind_eq_some_iff.mp H
             obtain ⟨⟨t215,t216,t217,t218⟩,A900,H⟩:=H
             replace H : (some ((((bt t148 0) - 48) % 256),t171,x161002_43,x161003_43,x161004_43,0,0,t215,t216,t217,t218)) = some (r1,r2,r3,r4,r5,r6,r7,r8,r9,r10,r11):=H
             have A90:=A0_.mk A900
             clear A900
             simp only [Option.some.injEq,Prod.mk.injEq] at H
             obtain ⟨rfl,rfl,rfl,rfl,rfl,rfl,rfl,rfl,rfl,rfl,rfl⟩:=H
             go_wp2_with (first|((with_reducible refine gate_callee (f:=74) rfl ?_);refine goesL_ (some 93) rfl rfl Tryd.func74 (by kernel_rfl) rfl #[.pointer (some ⟨g,0,none⟩),.string t203] rfl (by (try simp only [List.map_toArray,List.map_cons,List.map_nil]);first|done|rfl|(simp only [List.length_drop,List.length_take];rfl)) ?_;(with_reducible refine (stim_reader_skip.calls g t205 t206 t207 t208 t203 t215 t216 t217 t218 w0 _ ?side1 ?side2 A90.out).mono ?_);(case side1 => repeat (first|(with_reducible first|exact HI0.out|apply IsS98.alloc|apply IsS98.drewN|apply IsS98.drew|apply IsS98.set_0|apply IsS98.set_1|apply IsS98.set_2|apply IsS98.set_3|refine IsS98.far ?_ NB0_146.out _|refine IsS98.far ?_ NB0_147.out _|refine IsS98.far ?_ NB0_160.out _)|exact HI0.out));(case side2 => repeat (first|(with_reducible first|exact HB.out|apply eA_|apply eN_|apply eD_|refine eS_ ?_ (IsS98.ge HI0.out)|refine eS_ ?_ GE146.out|refine eS_ ?_ GE147.out|refine eS_ ?_ GE160.out)|exact HB.out));rintro e w91 ⟨rfl,hi,hb,hk⟩;refine ⟨_,rfl,?_⟩;have n0_:=A0_.mk (Kd.R_mono (Kd.R_keep (IsS98.apart (show IsS98 w0 _ g t205 t206 t207 t208 from by repeat (first|(with_reducible first|exact HI0.out|apply IsS98.alloc|apply IsS98.drewN|apply IsS98.drew|apply IsS98.set_0|apply IsS98.set_1|apply IsS98.set_2|apply IsS98.set_3|refine IsS98.far ?_ NB0_146.out _|refine IsS98.far ?_ NB0_147.out _|refine IsS98.far ?_ NB0_160.out _)|exact HI0.out)) (by (with_reducible repeat (first|apply Kd.R_alloc|apply Kd.R_drewN|apply Kd.R_drew));exact HO_161001.out) (by decide)) hk (fun _ h => h.2)) (fun _ h => h.1));have n1_:=A0_.mk (Kd.R_mono (Kd.R_keep (IsS98.apart (show IsS98 w0 _ g t205 t206 t207 t208 from by repeat (first|(with_reducible first|exact HI0.out|apply IsS98.alloc|apply IsS98.drewN|apply IsS98.drew|apply IsS98.set_0|apply IsS98.set_1|apply IsS98.set_2|apply IsS98.set_3|refine IsS98.far ?_ NB0_146.out _|refine IsS98.far ?_ NB0_147.out _|refine IsS98.far ?_ NB0_160.out _)|exact HI0.out)) (by (with_reducible repeat (first|apply Kd.R_alloc|apply Kd.R_drewN|apply Kd.R_drew));exact HO_161002.out) (by decide)) hk (fun _ h => h.2)) (fun _ h => h.1));have n2_:=A0_.mk (Kd.S_mono (Kd.S_keep (IsS98.apartS (show IsS98 w0 _ g t205 t206 t207 t208 from by repeat (first|(with_reducible first|exact HI0.out|apply IsS98.alloc|apply IsS98.drewN|apply IsS98.drew|apply IsS98.set_0|apply IsS98.set_1|apply IsS98.set_2|apply IsS98.set_3|refine IsS98.far ?_ NB0_146.out _|refine IsS98.far ?_ NB0_147.out _|refine IsS98.far ?_ NB0_160.out _)|exact HI0.out)) (by (with_reducible repeat (first|apply Kd.S_alloc|apply Kd.S_drewN|apply Kd.S_drew));exact HO_161003.out) (by decide)) hk (fun _ h => h.2)) (fun _ h => h.1));have n3_:=A0_.mk (KeepBut.blk hk (g':=gb146) (o:=.cells #[.int .i64 x147000_43,.slice none 0 0,.slice none 0 0,.slice none 0 0,.int .i64 x147004_43] 28 (0,0)) (by (with_reducible repeat (first|refine bN_ ?_ _|refine bD_ ?_|refine bA_ ?_ _));exact BK146.out) NB146_0.out (by simp));have n4_:=A0_.mk (KeepBut.blk hk (g':=gb147) (o:=.cells #[.int .i64 x148000_43,.int .i64 x148001_43] 40 (0,0)) (by (with_reducible repeat (first|refine bN_ ?_ _|refine bD_ ?_|refine bA_ ?_ _));exact BK147.out) NB147_0.out (by simp));have n5_:=A0_.mk (KeepBut.blk hk (g':=gb160) (o:=.cells #[.int .i64 (((bt t148 0) - 48) % 256),.slice Ao45 t171.length co45,u161002,u161003,.int .i64 x161004_43] 28 (0,0)) (by (with_reducible repeat (first|refine bN_ ?_ _|refine bD_ ?_|refine bA_ ?_ _));exact BK160.out) NB160_0.out (by simp));have n6_:=A0_.mk (KeepBut.trans (by repeat (first|(with_reducible first|exact HK.out|apply KeepBut.set_|apply keep_drewN|apply keep_drew|apply keep_alloc|refine keep_far ?_ GW146.out _|refine keep_far ?_ GW147.out _|refine keep_far ?_ GW160.out _)|exact HK.out)) hk (.inl rfl));have n7_:=A0_.mk (hb);have n8_:=A0_.mk (hi);clear HO_161001;clear HO_161002;clear HO_161003;clear BK146;clear BK147;clear BK160;clear HK;clear HB;clear HI0;have HO_161001:=n0_;have HO_161002:=n1_;have HO_161003:=n2_;have BK146:=n3_;have BK147:=n4_;have BK160:=n5_;have HK:=n6_;have HB:=n7_;have HI0:=n8_;clear n0_ n1_ n2_ n3_ n4_ n5_ n6_ n7_ n8_;(try clear hb);(try clear hb2);(try clear hk);(try clear hi);have hnb92:=NB160_146.out;have hnc92:=NB146_160.out;have hnb93:=NB160_147.out;have hnc93:=NB147_160.out;have hnb94:=NB160_0.out;have hnc94:=NB0_160.out;have hcz95_0 : w91.cell? ⟨gb160,0,none⟩ = some (.int .i64 (((bt t148 0) - 48) % 256)):=(bC_ BK160.out 0).trans rfl;have hcz95_1 : w91.cell? ⟨gb160,1,none⟩ = some (.slice Ao45 t171.length co45):=(bC_ BK160.out 1).trans rfl;have hcz95_2 : w91.cell? ⟨gb160,2,none⟩ = some (u161002):=(bC_ BK160.out 2).trans rfl;have hcz95_3 : w91.cell? ⟨gb160,3,none⟩ = some (u161003):=(bC_ BK160.out 3).trans rfl;have hcz95_4 : w91.cell? ⟨gb160,4,none⟩ = some (.int .i64 x161004_43):=(bC_ BK160.out 4).trans rfl;have hfz95_0:=bF_ BK160.out 0;have hfz95_1:=bF_ BK160.out 1;have hfz95_2:=bF_ BK160.out 2;have hfz95_3:=bF_ BK160.out 3;have hfz95_4:=bF_ BK160.out 4;have hnb96:=NB146_147.out;have hnc96:=NB147_146.out;have hnb97:=NB146_0.out;have hnc97:=NB0_146.out;have hcz98_0 : w91.cell? ⟨gb146,0,none⟩ = some (.int .i64 x147000_43):=(bC_ BK146.out 0).trans rfl;have hcz98_1 : w91.cell? ⟨gb146,1,none⟩ = some (.slice none 0 0):=(bC_ BK146.out 1).trans rfl;have hcz98_2 : w91.cell? ⟨gb146,2,none⟩ = some (.slice none 0 0):=(bC_ BK146.out 2).trans rfl;have hcz98_3 : w91.cell? ⟨gb146,3,none⟩ = some (.slice none 0 0):=(bC_ BK146.out 3).trans rfl;have hcz98_4 : w91.cell? ⟨gb146,4,none⟩ = some (.int .i64 x147004_43):=(bC_ BK146.out 4).trans rfl;have hfz98_0:=bF_ BK146.out 0;have hfz98_1:=bF_ BK146.out 1;have hfz98_2:=bF_ BK146.out 2;have hfz98_3:=bF_ BK146.out 3;have hfz98_4:=bF_ BK146.out 4;obtain ⟨Ao99,co99,eo99⟩:=Kd.R_slice HO_161002.out;subst eo99;obtain ⟨Ao100,co100,eo100⟩:=Kd.S_slice HO_161003.out;subst eo100;have hnb101:=NB147_0.out;have hnc101:=NB0_147.out;have hcz102_0 : w91.cell? ⟨gb147,0,none⟩ = some (.int .i64 x148000_43):=(bC_ BK147.out 0).trans rfl;have hcz102_1 : w91.cell? ⟨gb147,1,none⟩ = some (.int .i64 x148001_43):=(bC_ BK147.out 1).trans rfl;have hfz102_0:=bF_ BK147.out 0;have hfz102_1:=bF_ BK147.out 1))
             refine bodyPost_ret (results_cc rfl _ _ gb146 gb147 28 40 #[.int .i64 (((bt t148 0) - 48) % 256),.slice Ao45 t171.length co45,.slice Ao99 x161002_43.length co99,.slice Ao100 x161003_43.length co100,.int .i64 x161004_43] #[.int .i64 0,.int .i64 0] (0,0) (0,0) _ _ rfl (by (with_reducible repeat (first|refine bN_ ?_ _|refine bD_ ?_|refine bA_ ?_ _));refine blk_far ?_ NB146_147.out _;(with_reducible repeat (first|refine bN_ ?_ _|refine bD_ ?_|refine bA_ ?_ _));refine blk_far ?_ NB146_147.out _;(with_reducible repeat (first|refine bN_ ?_ _|refine bD_ ?_|refine bA_ ?_ _));refine blk_put (cs:=#[.int .i64 (((bt t148 0) - 48) % 256),.slice Ao45 t171.length co45,.slice Ao99 x161002_43.length co99,.slice Ao100 x161003_43.length co100,.int .i64 x147004_43]) ?_ 4 _ rfl;(with_reducible repeat (first|refine bN_ ?_ _|refine bD_ ?_|refine bA_ ?_ _));refine blk_put (cs:=#[.int .i64 (((bt t148 0) - 48) % 256),.slice Ao45 t171.length co45,.slice Ao99 x161002_43.length co99,.slice none 0 0,.int .i64 x147004_43]) ?_ 3 _ rfl;(with_reducible repeat (first|refine bN_ ?_ _|refine bD_ ?_|refine bA_ ?_ _));refine blk_put (cs:=#[.int .i64 (((bt t148 0) - 48) % 256),.slice Ao45 t171.length co45,.slice none 0 0,.slice none 0 0,.int .i64 x147004_43]) ?_ 2 _ rfl;(with_reducible repeat (first|refine bN_ ?_ _|refine bD_ ?_|refine bA_ ?_ _));refine blk_put (cs:=#[.int .i64 (((bt t148 0) - 48) % 256),.slice none 0 0,.slice none 0 0,.slice none 0 0,.int .i64 x147004_43]) ?_ 1 _ rfl;(with_reducible repeat (first|refine bN_ ?_ _|refine bD_ ?_|refine bA_ ?_ _));refine blk_put (cs:=#[.int .i64 x147000_43,.slice none 0 0,.slice none 0 0,.slice none 0 0,.int .i64 x147004_43]) ?_ 0 _ rfl;(with_reducible repeat (first|refine bN_ ?_ _|refine bD_ ?_|refine bA_ ?_ _));exact BK146.out) Tryd.underlying28 rfl (by kernel_rfl) rfl (by (with_reducible repeat (first|refine bN_ ?_ _|refine bD_ ?_|refine bA_ ?_ _));refine blk_put (cs:=#[.int .i64 0,.int .i64 x148001_43]) ?_ 1 _ rfl;(with_reducible repeat (first|refine bN_ ?_ _|refine bD_ ?_|refine bA_ ?_ _));refine blk_put (cs:=#[.int .i64 x148000_43,.int .i64 x148001_43]) ?_ 0 _ rfl;(with_reducible repeat (first|refine bN_ ?_ _|refine bD_ ?_|refine bA_ ?_ _));refine blk_far ?_ NB147_146.out _;(with_reducible repeat (first|refine bN_ ?_ _|refine bD_ ?_|refine bA_ ?_ _));refine blk_far ?_ NB147_146.out _;(with_reducible repeat (first|refine bN_ ?_ _|refine bD_ ?_|refine bA_ ?_ _));refine blk_far ?_ NB147_146.out _;(with_reducible repeat (first|refine bN_ ?_ _|refine bD_ ?_|refine bA_ ?_ _));refine blk_far ?_ NB147_146.out _;(with_reducible repeat (first|refine bN_ ?_ _|refine bD_ ?_|refine bA_ ?_ _));refine blk_far ?_ NB147_146.out _;(with_reducible repeat (first|refine bN_ ?_ _|refine bD_ ?_|refine bA_ ?_ _));exact BK147.out) Tryd.underlying40 rfl (by kernel_rfl)) rfl ?_
             exact ⟨_,_,_,by first|rfl|(simp [errW_none,errW_some] <;> rfl)|(simp [*,errW_none,errW_some] <;> rfl),by (with_reducible repeat (first|apply Kd.R_alloc|apply Kd.R_drewN|apply Kd.R_drew));exact Kd.R_mono (Kd.R_far (p:=⟨gb147,1,none⟩) (Kd.R_far (p:=⟨gb147,0,none⟩) (Kd.R_far (p:=⟨gb146,4,none⟩) (Kd.R_far (p:=⟨gb146,3,none⟩) (Kd.R_far (p:=⟨gb146,2,none⟩) (Kd.R_far (p:=⟨gb146,1,none⟩) (Kd.R_far (p:=⟨gb146,0,none⟩) (Kd.R_types (Kd.R_types HO_161001.out BK146.out (by decide)) BK147.out (by decide)) (fun _ hk => hk.1.2) (.int .i64 (((bt t148 0) - 48) % 256))) (fun _ hk => hk.1.2) (.slice Ao45 t171.length co45)) (fun _ hk => hk.1.2) (.slice Ao99 x161002_43.length co99)) (fun _ hk => hk.1.2) (.slice Ao100 x161003_43.length co100)) (fun _ hk => hk.1.2) (.int .i64 x161004_43)) (fun _ hk => hk.2) (.int .i64 0)) (fun _ hk => hk.2) (.int .i64 0)) (fun _ hk => trivial),by (with_reducible repeat (first|apply Kd.R_alloc|apply Kd.R_drewN|apply Kd.R_drew));exact Kd.R_mono (Kd.R_far (p:=⟨gb147,1,none⟩) (Kd.R_far (p:=⟨gb147,0,none⟩) (Kd.R_far (p:=⟨gb146,4,none⟩) (Kd.R_far (p:=⟨gb146,3,none⟩) (Kd.R_far (p:=⟨gb146,2,none⟩) (Kd.R_far (p:=⟨gb146,1,none⟩) (Kd.R_far (p:=⟨gb146,0,none⟩) (Kd.R_types (Kd.R_types HO_161002.out BK146.out (by decide)) BK147.out (by decide)) (fun _ hk => hk.1.2) (.int .i64 (((bt t148 0) - 48) % 256))) (fun _ hk => hk.1.2) (.slice Ao45 t171.length co45)) (fun _ hk => hk.1.2) (.slice Ao99 x161002_43.length co99)) (fun _ hk => hk.1.2) (.slice Ao100 x161003_43.length co100)) (fun _ hk => hk.1.2) (.int .i64 x161004_43)) (fun _ hk => hk.2) (.int .i64 0)) (fun _ hk => hk.2) (.int .i64 0)) (fun _ hk => trivial),by (with_reducible repeat (first|apply Kd.S_alloc|apply Kd.S_drewN|apply Kd.S_drew));exact Kd.S_mono (Kd.S_far (p:=⟨gb147,1,none⟩) (Kd.S_far (p:=⟨gb147,0,none⟩) (Kd.S_far (p:=⟨gb146,4,none⟩) (Kd.S_far (p:=⟨gb146,3,none⟩) (Kd.S_far (p:=⟨gb146,2,none⟩) (Kd.S_far (p:=⟨gb146,1,none⟩) (Kd.S_far (p:=⟨gb146,0,none⟩) (Kd.S_types (Kd.S_types HO_161003.out BK146.out (by decide)) BK147.out (by decide)) (fun _ hk => hk.1.2) (.int .i64 (((bt t148 0) - 48) % 256))) (fun _ hk => hk.1.2) (.slice Ao45 t171.length co45)) (fun _ hk => hk.1.2) (.slice Ao99 x161002_43.length co99)) (fun _ hk => hk.1.2) (.slice Ao100 x161003_43.length co100)) (fun _ hk => hk.1.2) (.int .i64 x161004_43)) (fun _ hk => hk.2) (.int .i64 0)) (fun _ hk => hk.2) (.int .i64 0)) (fun _ hk => hk.1.1),by repeat (first|(with_reducible first|exact HI0.out|apply IsS98.alloc|apply IsS98.drewN|apply IsS98.drew|apply IsS98.set_0|apply IsS98.set_1|apply IsS98.set_2|apply IsS98.set_3|refine IsS98.far ?_ NB0_146.out _|refine IsS98.far ?_ NB0_147.out _|refine IsS98.far ?_ NB0_160.out _)|exact HI0.out),by repeat (first|(with_reducible first|exact HB.out|apply eA_|apply eN_|apply eD_|refine eS_ ?_ (IsS98.ge HI0.out)|refine eS_ ?_ GE146.out|refine eS_ ?_ GE147.out|refine eS_ ?_ GE160.out)|exact HB.out),by repeat (first|(with_reducible first|exact HK.out|apply KeepBut.set_|apply keep_drewN|apply keep_drew|apply keep_alloc|refine keep_far ?_ GW146.out _|refine keep_far ?_ GW147.out _|refine keep_far ?_ GW160.out _)|exact HK.out)⟩
    ·rw [if_neg c18] at H
     exact absurd H (by simp)
end Go.Proofs.YtojepjkpnponoaaDoor.Stim

