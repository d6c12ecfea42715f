import Derived.Test.YtojepjkpnponoaaDoorKWhole0
namespace Go.Proofs.YtojepjkpnponoaaDoor.Whole
open Go.RowKit Go.Proofs.YtojepjkpnponoaaDoorW.PrintWords Go.Proofs.YtojepjkpnponoaaDoorW.PrintLast Go.Proofs.YtojepjkpnponoaaDoorW.PrintMore
attribute [local go_sem] max2_int min2_int max_two min_two max_three min_three max_four min_four
set_option linter.unusedVariables false
set_option linter.unusedSimpArgs false
def trestleref02_Bits0.l0 : Nat → List Bool → List Int → Int → Option (ByteArray)
 |0,_,_,_ => none
 |k + 1,x0,x3,x4 => if x4 < (x0.length : Int) then (if 0 ≤ x4 then (if x4 < (x3.length : Int) then ((some (x3.set (x4 : Int).toNat 48 : List Int)).bind fun y104 => (if rdOf false x0 x4 = true then (trestleref02_Bits0.l0 k x0 (y104.set (x4 : Int).toNat 49) (wrap64 (x4 + 1))) else (trestleref02_Bits0.l0 k x0 y104 (wrap64 (x4 + 1))))) else (none)) else (none)) else (some (strOfNums x3))
def trestleref02_Bits0.f (k : Nat) (l0 : List Bool) : Option (ByteArray):=if 0 ≤ (l0.length : Int) then (if ((l0.length : Int) : Int).toNat ≤ 281474976710656 then (trestleref02_Bits0.l0 k l0 (List.replicate ((l0.length : Int) : Int).toNat 0) 0) else (none)) else (none)
theorem trestleref02_Bits0.mono_l : ∀ k,(∀ y0 y1 y2,LeO (trestleref02_Bits0.l0 k y0 y1 y2) (trestleref02_Bits0.l0 (k + 1) y0 y1 y2))
 |0 => fun _ _ _ r h => by simp [trestleref02_Bits0.l0] at h
 |k + 1 => by
  have ih0:=trestleref02_Bits0.mono_l k
  ·intro y0 y1 y2
   unfold trestleref02_Bits0.l0
   repeat' first
   |(with_reducible exact ih0 _ _ _)
   |(with_reducible exact LeO.refl _)
   |(with_reducible exact LeO.none _)
   |(with_reducible refine LeO.ite ?_ ?_)
   |(with_reducible refine LeO.bind ?_ (fun _ => ?_))
   |exact ih0 _ _ _
   |exact LeO.none _
   |refine LeO.ite ?_ ?_
   |refine LeO.bind ?_ (fun _ => ?_)
theorem trestleref02_Bits0.mono : ∀ a0 k,LeO (trestleref02_Bits0.f k a0) (trestleref02_Bits0.f (k + 1) a0):=by
 intro a0 k
 have ih0:=trestleref02_Bits0.mono_l k
 unfold trestleref02_Bits0.f
 repeat' first
   |(with_reducible exact ih0 _ _ _)
   |(with_reducible exact LeO.refl _)
   |(with_reducible exact LeO.none _)
   |(with_reducible refine LeO.ite ?_ ?_)
   |(with_reducible refine LeO.bind ?_ (fun _ => ?_))
   |exact ih0 _ _ _
   |exact LeO.none _
   |refine LeO.ite ?_ ?_
   |refine LeO.bind ?_ (fun _ => ?_)
set_option maxHeartbeats 8000000 in
set_option maxRecDepth 100000 in
theorem trestleref02_Bits0.calls (k : Nat) (A0 : Option Addr) (c0 : Nat) (l0 : List Bool) (r : ByteArray) (w : World) (hr0 : Kd.C Kd.bool w A0 l0.length l0) (hc0 : l0.length ≤ c0) (h : trestleref02_Bits0.f k l0 = some r) :
  Calls Tryd.prog 71 #[.slice A0 l0.length c0] w fun e w' => e = .returned (.string r) ∧ Below w.heap.size w w':=by
 have HR0:=A0_.mk hr0
 have HC0:=A0_.mk hc0
 clear hr0 hc0
 have HB:=A0_.mk (Below.refl w.heap.size w)
 have H : (if 0 ≤ (l0.length : Int) then (if ((l0.length : Int) : Int).toNat ≤ 281474976710656 then (trestleref02_Bits0.l0 k l0 (List.replicate ((l0.length : Int) : Int).toNat 0) 0) else (none)) else (none)) = some r:=h
 clear h
 by_cases c2 : 0 ≤ (l0.length : Int)
 ·rw [if_pos c2] at H
  have c2b0:=eq_true c2
  have c2b1 : decide (0 ≤ (l0.length : Int)) = true:=decide_eq_true c2
  clear c2
  by_cases c3 : ((l0.length : Int) : Int).toNat ≤ 281474976710656
  ·rw [if_pos c3] at H
   have c3b0:=eq_true c3
   have c3b1 : decide (((l0.length : Int) : Int).toNat ≤ 281474976710656) = true:=decide_eq_true c3
   clear c3
   obtain ⟨y101,hy101⟩ : ∃ y_ : List Int,y_ = (List.replicate ((l0.length : Int) : Int).toNat 0):=⟨_,rfl⟩
   replace H : (trestleref02_Bits0.l0 k l0 y101 0) = some r:=by first|(rw [hy101];with_reducible exact H)|(have H2_:=(Option.bind_some _ _).symm.trans H;rw [hy101];with_reducible exact H2_)|(have H2_:=(Option.bind_some _ _).symm.trans H;with_reducible exact H2_)|with_reducible exact H|(rw [hy101];exact H)|exact H
   have Ny101:=A0_.mk hy101
   clear hy101
   have H':=A0_.mk H
   clear H
   go_enter Tryd.func71,Tryd.ntmps71
   go_wp2_with (first|((with_reducible refine gate_dst (N:=7) rfl ?_);refine Kd.R_make (Kd.int .u8) _ 5 rfl (N:=7) rfl 70 _ _ rfl (l0.length : Int) rfl rfl Tryd.underlying70 (.int .u8 0) 1 info5 rfl (by decide) (by omega) 0 (ok:=fun _ => True) (okp:=fun _ => True) rfl (fun _ hk => hk) trivial (of_decide_eq_true (by first|(with_reducible assumption)|assumption)) (Nat.le_trans (Nat.mul_le_mul_right _ (of_decide_eq_true (by first|(with_reducible assumption)|assumption) : (l0.length : Int).toNat ≤ 281474976710656)) (by omega)) (Below.refl _ _) (Nat.le_refl _) ?_;intro v102 w4 ho5 hb hg_ hnew_;clear hg_ hnew_;(first|rw [← Ny101.out] at ho5|(simp only [Int.reduceToNat] at ho5;rw [← Ny101.out] at ho5));have n0_:=A0_.mk (Kd.R_lower ho5 (below_size (by repeat (first|(with_reducible first|exact HB.out|apply eA_|apply eN_|apply eD_)|exact HB.out))));have n1_:=A0_.mk (below_step (by repeat (first|(with_reducible first|exact HB.out|apply eA_|apply eN_|apply eD_)|exact HB.out)) hb);clear HB;have HO103:=n0_;have HB:=n1_;clear n0_ n1_;clear hb ho5))
   (try simp only [Act.put,List.setIfInBounds_toArray,List.set_cons_zero,List.set_cons_succ])
   go_loopg [4] k (fun kq v4 w' => ∃ (x3_1 : List Int) (x4_1 : Int),v4 = .int .i64 x4_1 ∧ A0_ (trestleref02_Bits0.l0 kq l0 x3_1 x4_1 = some r) ∧ A0_ (kq ≤ k) ∧ A0_ (Kd.R (Kd.int .u8) 5 w' w.heap.size (fun _ => True) v102 x3_1) ∧ A0_ (Below w.heap.size w w'))
   case atStart => exact ⟨(y101),(0),(by first|rfl|(simp;done)|(simp [*];done)),H',⟨Nat.le_refl _⟩,⟨by (with_reducible repeat (first|apply Kd.R_alloc|apply Kd.R_drewN|apply Kd.R_drew));exact HO103.out⟩,⟨by repeat (first|(with_reducible first|exact HB.out|apply eA_|apply eN_|apply eD_)|exact HB.out)⟩⟩
   case round =>
    clear H'
    try clear c2
    try clear c2b0
    try clear c2b1
    try clear p2
    try clear c3
    try clear c3b0
    try clear c3b1
    obtain ⟨x3_1,x4_1,rfl,HA,HK1,HO_3,HB⟩:=hrel
    cases gk with
    |zero => exact absurd HA.out (by simp [trestleref02_Bits0.l0])
    |succ k1 =>
     have H:=HA.out
     clear HA
     simp only [trestleref02_Bits0.l0] at H
     by_cases c6 : x4_1 < (l0.length : Int)
     ·rw [if_pos c6] at H
      have c6b0 : decide (x4_1 < (l0.length : Int)) = true:=decide_eq_true c6
      clear c6
      by_cases c7 : 0 ≤ x4_1
      ·rw [if_pos c7] at H
       have c7b0 : decide (0 ≤ x4_1) = true:=decide_eq_true c7
       clear c7
       by_cases c8 : x4_1 < (x3_1.length : Int)
       ·rw [if_pos c8] at H
        have c8b0 : decide (x4_1 < (x3_1.length : Int)) = true:=decide_eq_true c8
        clear c8
        obtain ⟨y104,hy104⟩ : ∃ y_ : List Int,y_ = (x3_1.set (x4_1 : Int).toNat 48):=⟨_,rfl⟩
        replace H : (if rdOf false l0 x4_1 = true then (trestleref02_Bits0.l0 k1 l0 (y104.set (x4_1 : Int).toNat 49) (wrap64 (x4_1 + 1))) else (trestleref02_Bits0.l0 k1 l0 y104 (wrap64 (x4_1 + 1)))) = some r:=by first|(rw [hy104];with_reducible exact H)|(have H2_:=(Option.bind_some _ _).symm.trans H;rw [hy104];with_reducible exact H2_)|(have H2_:=(Option.bind_some _ _).symm.trans H;with_reducible exact H2_)|with_reducible exact H|(rw [hy104];exact H)|exact H
        have Ny104:=A0_.mk hy104
        clear hy104
        obtain ⟨bq10,hbq10⟩ : ∃ b_ : Bool,b_ = (rdOf false l0 x4_1):=⟨_,rfl⟩
        replace H : (if bq10 = true then (trestleref02_Bits0.l0 k1 l0 (y104.set (x4_1 : Int).toNat 49) (wrap64 (x4_1 + 1))) else (trestleref02_Bits0.l0 k1 l0 y104 (wrap64 (x4_1 + 1)))) = some r:=by rw [← hbq10] at H;exact H
        have Nbq10:=A0_.mk hbq10
        clear hbq10
        by_cases c11 : bq10 = true
        ·subst c11
         have H1 : (trestleref02_Bits0.l0 k1 l0 (y104.set (x4_1 : Int).toNat 49) (wrap64 (x4_1 + 1))) = some r:=by rw [if_pos rfl] at H;exact H
         clear H
         have H:=H1
         clear H1
         obtain ⟨y106,hy106⟩ : ∃ y_ : List Int,y_ = (y104.set (x4_1 : Int).toNat 49):=⟨_,rfl⟩
         replace H : (trestleref02_Bits0.l0 k1 l0 y106 (wrap64 (x4_1 + 1))) = some r:=by first|(rw [hy106];with_reducible exact H)|(have H2_:=(Option.bind_some _ _).symm.trans H;rw [hy106];with_reducible exact H2_)|(have H2_:=(Option.bind_some _ _).symm.trans H;with_reducible exact H2_)|with_reducible exact H|(rw [hy106];exact H)|exact H
         have Ny106:=A0_.mk hy106
         clear hy106
         have H':=A0_.mk H
         clear H
         have p9 : 0 ≤ (x4_1 : Int):=of_decide_eq_true (by first|(with_reducible assumption)|assumption)
         have q9 : (x4_1 : Int) < ((x3_1.length : Int) : Int):=of_decide_eq_true (by first|(with_reducible assumption)|assumption)
         obtain ⟨go9,co9,eo9,gb9,gl9,cl9,HG9⟩:=Kd.R_form HO_3.out (by omega)
         (first|cases eo9|(injection eo9 with ea_ en_ ec_;(first|subst ea_|(injection ea_ with ea_;subst ea_));subst ec_;clear en_))
         have GB9:=A0_.mk gb9
         have GG9:=A0_.mk HG9
         clear gb9 gl9 HG9
         obtain ⟨hx9_0,hf9_0⟩:=Kd.R_celln 0 HO_3.out (x4_1 : Int) p9 q9
         replace p9:=eq_true p9
         replace q9:=eq_true q9
         have HP13:=Kd.R_putg HO_3.out (x4_1 : Int) 48
         go_wp2_with (first|((with_reducible refine gate_store (t:=5) (p:=16) rfl ?_);refine store_event (t:=5) (p:=16) (v:=?vo_w14) (w1:=(wr.setCell ⟨go9,(x4_1 : Int).toNat,none⟩ (.int .u8 48))) ?hg ?ho ?hn ?hr ?_;(case ho => rfl);(case hg => rfl);(case hn => rfl);(case hr => first|(go_simp;done)|(go_simp;rfl));intro w14 hw;have hg : wr.grownBy w14 (some go9):=(by rw [hw];exact HP13.2);have hp_ : Kd.R (Kd.int .u8) 5 w14 w.heap.size (fun _ => True) (.slice (some ⟨go9,0,none⟩) x3_1.length co9) y104:=(by rw [hw,Ny104.out];exact HP13.1);clear HP13;have n0_:=A0_.mk (hp_);have n1_:=A0_.mk ((by rw [hw];exact eS_ (HB.out) GB9.out : Below w.heap.size w w14));clear HO_3;clear HB;have HO_3:=n0_;have HB:=n1_;clear n0_ n1_;clear hg hw hp_;have p105 : 0 ≤ (x4_1 : Int):=of_decide_eq_true (by first|(with_reducible assumption)|assumption);have q105 : x4_1 < (l0.length : Int):=of_decide_eq_true (by first|(with_reducible assumption)|assumption);obtain ⟨ad105,e105,hx105_0⟩:=Kd.at_bool HR0.out x4_1 p105 q105;(try rw [← Nbq10.out] at hx105_0);cases e105;replace hx105_0:=(HB.out.cell (World.block_lt_of_cell? w _ hx105_0)).trans hx105_0;replace p105:=eq_true p105;replace q105:=eq_true q105;have p12 : 0 ≤ (x4_1 : Int):=of_decide_eq_true (by first|(with_reducible assumption)|assumption);have q12 : (x4_1 : Int) < ((x3_1.length : Int) : Int):=of_decide_eq_true (by first|(with_reducible assumption)|assumption);obtain ⟨hx12_0,hf12_0⟩:=Kd.R_celln 0 HO_3.out (x4_1 : Int) p12 q12;replace p12:=eq_true p12;replace q12:=eq_true q12;obtain ⟨hy15_,hz15_⟩:=Kd.R_celln 0 HO_3.out (x4_1 : Int) (of_decide_eq_true (by first|(with_reducible assumption)|assumption)) (of_decide_eq_true (by first|(with_reducible assumption)|assumption));have HP15:=Kd.R_putg HO_3.out (x4_1 : Int) 49)|((with_reducible refine gate_store (t:=5) (p:=23) rfl ?_);refine store_event (t:=5) (p:=23) (v:=?vo_w16) (w1:=(w14.setCell ⟨go9,(x4_1 : Int).toNat,none⟩ (.int .u8 49))) ?hg ?ho ?hn ?hr ?_;(case ho => rfl);(case hg => rfl);(case hn => rfl);(case hr => first|(go_simp;done)|(go_simp;rfl));intro w16 hw;have hg : w14.grownBy w16 (some go9):=(by rw [hw];exact HP15.2);have hp_ : Kd.R (Kd.int .u8) 5 w16 w.heap.size (fun _ => True) (.slice (some ⟨go9,0,none⟩) x3_1.length co9) y106:=(by rw [hw,Ny106.out];exact HP15.1);clear HP15;have n0_:=A0_.mk (hp_);have n1_:=A0_.mk ((by rw [hw];exact eS_ (HB.out) GB9.out : Below w.heap.size w w16));clear HO_3;clear HB;have HO_3:=n0_;have HB:=n1_;clear n0_ n1_;clear hg hw hp_))
         go_roundg k1
         case measure => have:=HK1.out;omega
         case rel => exact ⟨(y106),(wrap64 (x4_1 + 1)),(by first|rfl|(simp;done)|(simp [*];done)),H',⟨by have:=HK1.out;omega⟩,⟨by (with_reducible repeat (first|apply Kd.R_alloc|apply Kd.R_drewN|apply Kd.R_drew));exact HO_3.out⟩,⟨by repeat (first|(with_reducible first|exact HB.out|apply eA_|apply eN_|apply eD_)|exact HB.out)⟩⟩
        ·replace c11:=Bool.eq_false_iff.mpr c11
         subst c11
         have H1 : (trestleref02_Bits0.l0 k1 l0 y104 (wrap64 (x4_1 + 1))) = some r:=by rw [if_neg (show ¬ (false = true) by decide)] at H;exact H
         clear H
         have H:=H1
         clear H1
         have H':=A0_.mk H
         clear H
         have p9 : 0 ≤ (x4_1 : Int):=of_decide_eq_true (by first|(with_reducible assumption)|assumption)
         have q9 : (x4_1 : Int) < ((x3_1.length : Int) : Int):=of_decide_eq_true (by first|(with_reducible assumption)|assumption)
         obtain ⟨go9,co9,eo9,gb9,gl9,cl9,HG9⟩:=Kd.R_form HO_3.out (by omega)
         (first|cases eo9|(injection eo9 with ea_ en_ ec_;(first|subst ea_|(injection ea_ with ea_;subst ea_));subst ec_;clear en_))
         have GB9:=A0_.mk gb9
         have GG9:=A0_.mk HG9
         clear gb9 gl9 HG9
         obtain ⟨hx9_0,hf9_0⟩:=Kd.R_celln 0 HO_3.out (x4_1 : Int) p9 q9
         replace p9:=eq_true p9
         replace q9:=eq_true q9
         have HP17:=Kd.R_putg HO_3.out (x4_1 : Int) 48
         go_wp2_with (first|((with_reducible refine gate_store (t:=5) (p:=16) rfl ?_);refine store_event (t:=5) (p:=16) (v:=?vo_w18) (w1:=(wr.setCell ⟨go9,(x4_1 : Int).toNat,none⟩ (.int .u8 48))) ?hg ?ho ?hn ?hr ?_;(case ho => rfl);(case hg => rfl);(case hn => rfl);(case hr => first|(go_simp;done)|(go_simp;rfl));intro w18 hw;have hg : wr.grownBy w18 (some go9):=(by rw [hw];exact HP17.2);have hp_ : Kd.R (Kd.int .u8) 5 w18 w.heap.size (fun _ => True) (.slice (some ⟨go9,0,none⟩) x3_1.length co9) y104:=(by rw [hw,Ny104.out];exact HP17.1);clear HP17;have n0_:=A0_.mk (hp_);have n1_:=A0_.mk ((by rw [hw];exact eS_ (HB.out) GB9.out : Below w.heap.size w w18));clear HO_3;clear HB;have HO_3:=n0_;have HB:=n1_;clear n0_ n1_;clear hg hw hp_;have p105 : 0 ≤ (x4_1 : Int):=of_decide_eq_true (by first|(with_reducible assumption)|assumption);have q105 : x4_1 < (l0.length : Int):=of_decide_eq_true (by first|(with_reducible assumption)|assumption);obtain ⟨ad105,e105,hx105_0⟩:=Kd.at_bool HR0.out x4_1 p105 q105;(try rw [← Nbq10.out] at hx105_0);cases e105;replace hx105_0:=(HB.out.cell (World.block_lt_of_cell? w _ hx105_0)).trans hx105_0;replace p105:=eq_true p105;replace q105:=eq_true q105))
         go_roundg k1
         case measure => have:=HK1.out;omega
         case rel => exact ⟨(y104),(wrap64 (x4_1 + 1)),(by first|rfl|(simp;done)|(simp [*];done)),H',⟨by have:=HK1.out;omega⟩,⟨by (with_reducible repeat (first|apply Kd.R_alloc|apply Kd.R_drewN|apply Kd.R_drew));exact HO_3.out⟩,⟨by repeat (first|(with_reducible first|exact HB.out|apply eA_|apply eN_|apply eD_)|exact HB.out)⟩⟩
       ·rw [if_neg c8] at H
        exact absurd H (by simp)
      ·rw [if_neg c7] at H
       exact absurd H (by simp)
     ·rw [if_neg c6] at H
      have c6b0 : decide (x4_1 < (l0.length : Int)) = false:=decide_eq_false c6
      clear c6
      obtain rfl:=Option.some.inj H
      have hcv19:=own_string (P:=Tryd.prog) Tryd.underlying70 Tryd.underlying5 Tryd.underlying9 (Kd.own_of_R HO_3.out)
      go_wp2
      go_ret
      exact ⟨by first|rfl|(simp [errW_none,errW_some] <;> rfl)|(simp [*,errW_none,errW_some] <;> rfl),by repeat (first|(with_reducible first|exact HB.out|apply eA_|apply eN_|apply eD_)|exact HB.out)⟩
  ·rw [if_neg c3] at H
   exact absurd H (by simp)
 ·rw [if_neg c2] at H
  exact absurd H (by simp)
def trestleref02_Whole.l0 : Nat → Int → ByteArray → Option (ByteArray)
 |0,_,_ => none
 |k + 1,x0,x3 => if x0 > 0 then (if 0 ≤ (Int.tmod x0 10) then (if (Int.tmod x0 10) ≤ (wrap64 ((Int.tmod x0 10) + 1)) then (if (wrap64 ((Int.tmod x0 10) + 1)) ≤ 10 then (if ((⟨#[48,49,50,51,52,53,54,55,56,57]⟩ : ByteArray).extract ((Int.tmod x0 10) : Int).toNat ((wrap64 ((Int.tmod x0 10) + 1)) : Int).toNat).size + x3.size ≤ 9223372036854775807 then (trestleref02_Whole.l0 k (wrap64 (Int.tdiv x0 10)) (((⟨#[48,49,50,51,52,53,54,55,56,57]⟩ : ByteArray).extract ((Int.tmod x0 10) : Int).toNat ((wrap64 ((Int.tmod x0 10) + 1)) : Int).toNat) ++ x3)) else (none)) else (none)) else (none)) else (none)) else (if x3.toList = ([] : List UInt8) then (if 0 ≤ (Int.tmod x0 10) then (if (Int.tmod x0 10) ≤ (wrap64 ((Int.tmod x0 10) + 1)) then (if (wrap64 ((Int.tmod x0 10) + 1)) ≤ 10 then (if ((⟨#[48,49,50,51,52,53,54,55,56,57]⟩ : ByteArray).extract ((Int.tmod x0 10) : Int).toNat ((wrap64 ((Int.tmod x0 10) + 1)) : Int).toNat).size + x3.size ≤ 9223372036854775807 then (trestleref02_Whole.l0 k (wrap64 (Int.tdiv x0 10)) (((⟨#[48,49,50,51,52,53,54,55,56,57]⟩ : ByteArray).extract ((Int.tmod x0 10) : Int).toNat ((wrap64 ((Int.tmod x0 10) + 1)) : Int).toNat) ++ x3)) else (none)) else (none)) else (none)) else (none)) else (some x3))
def trestleref02_Whole.f (k : Nat) (a0 : Int) : Option (ByteArray):=trestleref02_Whole.l0 k a0 (⟨#[]⟩ : ByteArray)
theorem trestleref02_Whole.mono_l : ∀ k,(∀ y0 y1,LeO (trestleref02_Whole.l0 k y0 y1) (trestleref02_Whole.l0 (k + 1) y0 y1))
 |0 => fun _ _ r h => by simp [trestleref02_Whole.l0] at h
 |k + 1 => by
  have ih0:=trestleref02_Whole.mono_l k
  ·intro y0 y1
   unfold trestleref02_Whole.l0
   repeat' first
   |(with_reducible exact ih0 _ _)
   |(with_reducible exact LeO.refl _)
   |(with_reducible exact LeO.none _)
   |(with_reducible refine LeO.ite ?_ ?_)
   |(with_reducible refine LeO.bind ?_ (fun _ => ?_))
   |exact ih0 _ _
   |exact LeO.none _
   |refine LeO.ite ?_ ?_
   |refine LeO.bind ?_ (fun _ => ?_)
theorem trestleref02_Whole.mono : ∀ a0 k,LeO (trestleref02_Whole.f k a0) (trestleref02_Whole.f (k + 1) a0):=by
 intro a0 k
 have ih0:=trestleref02_Whole.mono_l k
 unfold trestleref02_Whole.f
 repeat' first
   |(with_reducible exact ih0 _ _)
   |(with_reducible exact LeO.refl _)
   |(with_reducible exact LeO.none _)
   |(with_reducible refine LeO.ite ?_ ?_)
   |(with_reducible refine LeO.bind ?_ (fun _ => ?_))
   |exact ih0 _ _
   |exact LeO.none _
   |refine LeO.ite ?_ ?_
   |refine LeO.bind ?_ (fun _ => ?_)
set_option maxHeartbeats 8000000 in
set_option maxRecDepth 100000 in
theorem trestleref02_Whole.calls (k : Nat) (a0 : Int) (r : ByteArray) (w : World) (h : trestleref02_Whole.f k a0 = some r) :
  Calls Tryd.prog 70 #[.int .i64 a0] w fun e w' => e = .returned (.string r) ∧ Drawn0 w w':=by
 have H : (trestleref02_Whole.l0 k a0 (⟨#[]⟩ : ByteArray)) = some r:=h
 clear h
 have H':=A0_.mk H
 clear H
 go_enter Tryd.func70,Tryd.ntmps70
 go_wp2
 (try simp only [Act.put,List.setIfInBounds_toArray,List.set_cons_zero,List.set_cons_succ])
 go_loopg [0,3] k (fun kq v0 v3 w' => ∃ (x0_1 : Int) (x3_1 : ByteArray),v0 = .int .i64 x0_1 ∧ v3 = .string x3_1 ∧ A0_ (trestleref02_Whole.l0 kq x0_1 x3_1 = some r) ∧ A0_ (kq ≤ k) ∧ Drawn0 w w')
 case atStart => exact ⟨(a0),((⟨#[]⟩ : ByteArray)),(by first|rfl|(simp;done)|(simp [*];done)),(by first|rfl|(simp;done)|(simp [*];done)),H',⟨Nat.le_refl _⟩,by repeat (first|exact Drawn0.refl _|apply Drawn0.step)⟩
 case round =>
  clear H'
  obtain ⟨x0_1,x3_1,rfl,rfl,HA,HK1,⟨m1,rfl⟩⟩:=hrel
  cases gk with
  |zero => exact absurd HA.out (by simp [trestleref02_Whole.l0])
  |succ k1 =>
   have H:=HA.out
   clear HA
   simp only [trestleref02_Whole.l0] at H
   by_cases c2 : x0_1 > 0
   ·rw [if_pos c2] at H
    have c2b0 : decide (0 < x0_1) = true:=decide_eq_true c2
    clear c2
    obtain ⟨ji3,hji3⟩ : ∃ j_ : Int,(Int.tmod x0_1 10) = j_:=⟨_,rfl⟩
    replace H : (if 0 ≤ (ji3) then (if (ji3) ≤ (wrap64 ((ji3) + 1)) then (if (wrap64 ((ji3) + 1)) ≤ 10 then (if ((⟨#[48,49,50,51,52,53,54,55,56,57]⟩ : ByteArray).extract ((ji3) : Int).toNat ((wrap64 ((ji3) + 1)) : Int).toNat).size + x3_1.size ≤ 9223372036854775807 then (trestleref02_Whole.l0 k1 (wrap64 (Int.tdiv x0_1 10)) (((⟨#[48,49,50,51,52,53,54,55,56,57]⟩ : ByteArray).extract ((ji3) : Int).toNat ((wrap64 ((ji3) + 1)) : Int).toNat) ++ x3_1)) else (none)) else (none)) else (none)) else (none)) = some r:=by first|(rw [hji3] at H;exact H)|(simp only [hji3] at H ⊢;exact H)
    by_cases c4 : 0 ≤ (ji3)
    ·rw [if_pos c4] at H
     have c4b0:=eq_true c4
     have c4b1 : decide (0 ≤ (ji3)) = true:=decide_eq_true c4
     clear c4
     by_cases c5 : (ji3) ≤ (wrap64 ((ji3) + 1))
     ·rw [if_pos c5] at H
      have c5b0:=eq_true c5
      have c5b1 : decide ((ji3) ≤ (wrap64 ((ji3) + 1))) = true:=decide_eq_true c5
      by_cases c6 : (wrap64 ((ji3) + 1)) ≤ 10
      ·rw [if_pos c6] at H
       have c6b0:=eq_true c6
       have c6b1 : decide ((wrap64 ((ji3) + 1)) ≤ 10) = true:=decide_eq_true c6
       by_cases c7 : ((⟨#[48,49,50,51,52,53,54,55,56,57]⟩ : ByteArray).extract ((ji3) : Int).toNat ((wrap64 ((ji3) + 1)) : Int).toNat).size + x3_1.size ≤ 9223372036854775807
       ·rw [if_pos c7] at H
        have c7b0:=eq_true c7
        have c7b1 : decide (((⟨#[48,49,50,51,52,53,54,55,56,57]⟩ : ByteArray).extract ((ji3) : Int).toNat ((wrap64 ((ji3) + 1)) : Int).toNat).size + x3_1.size ≤ 9223372036854775807) = true:=decide_eq_true c7
        try have c7b2 : (9223372036854775807 < ((⟨#[48,49,50,51,52,53,54,55,56,57]⟩ : ByteArray).extract ((ji3) : Int).toNat ((wrap64 ((ji3) + 1)) : Int).toNat).size + x3_1.size) = False:=eq_false (Nat.not_lt.2 c7)
        have H':=A0_.mk H
        clear H
        go_wp2
        go_roundg k1
        case measure => have:=HK1.out;omega
        case rel => exact ⟨(wrap64 (Int.tdiv x0_1 10)),(((⟨#[48,49,50,51,52,53,54,55,56,57]⟩ : ByteArray).extract ((ji3) : Int).toNat ((wrap64 ((ji3) + 1)) : Int).toNat) ++ x3_1),(by first|rfl|(simp;done)|(simp [*];done)),(by first|rfl|(simp;done)|(simp only [← hji3] <;> (first|rfl|simp))|(simp [*];done)),H',⟨by have:=HK1.out;omega⟩,by repeat (first|exact Drawn0.refl _|apply Drawn0.step)⟩
       ·rw [if_neg c7] at H
        exact absurd H (by simp)
      ·rw [if_neg c6] at H
       exact absurd H (by simp)
     ·rw [if_neg c5] at H
      exact absurd H (by simp)
    ·rw [if_neg c4] at H
     exact absurd H (by simp)
   ·rw [if_neg c2] at H
    have c2b0 : decide (0 < x0_1) = false:=decide_eq_false c2
    clear c2
    by_cases c8 : x3_1.toList = ([] : List UInt8)
    ·rw [if_pos c8] at H
     have c8b0 : (x3_1.toList == ([] : List UInt8)) = true:=beq_iff_eq.mpr c8
     have c8b1 : (x3_1.toList != ([] : List UInt8)) = false:=bne_eq_false_iff_eq.mpr c8
     clear c8
     obtain ⟨ji9,hji9⟩ : ∃ j_ : Int,(Int.tmod x0_1 10) = j_:=⟨_,rfl⟩
     replace H : (if 0 ≤ (ji9) then (if (ji9) ≤ (wrap64 ((ji9) + 1)) then (if (wrap64 ((ji9) + 1)) ≤ 10 then (if ((⟨#[48,49,50,51,52,53,54,55,56,57]⟩ : ByteArray).extract ((ji9) : Int).toNat ((wrap64 ((ji9) + 1)) : Int).toNat).size + x3_1.size ≤ 9223372036854775807 then (trestleref02_Whole.l0 k1 (wrap64 (Int.tdiv x0_1 10)) (((⟨#[48,49,50,51,52,53,54,55,56,57]⟩ : ByteArray).extract ((ji9) : Int).toNat ((wrap64 ((ji9) + 1)) : Int).toNat) ++ x3_1)) else (none)) else (none)) else (none)) else (none)) = some r:=by first|(rw [hji9] at H;exact H)|(simp only [hji9] at H ⊢;exact H)
     by_cases c10 : 0 ≤ (ji9)
     ·rw [if_pos c10] at H
      have c10b0:=eq_true c10
      have c10b1 : decide (0 ≤ (ji9)) = true:=decide_eq_true c10
      clear c10
      by_cases c11 : (ji9) ≤ (wrap64 ((ji9) + 1))
      ·rw [if_pos c11] at H
       have c11b0:=eq_true c11
       have c11b1 : decide ((ji9) ≤ (wrap64 ((ji9) + 1))) = true:=decide_eq_true c11
       by_cases c12 : (wrap64 ((ji9) + 1)) ≤ 10
       ·rw [if_pos c12] at H
        have c12b0:=eq_true c12
        have c12b1 : decide ((wrap64 ((ji9) + 1)) ≤ 10) = true:=decide_eq_true c12
        by_cases c13 : ((⟨#[48,49,50,51,52,53,54,55,56,57]⟩ : ByteArray).extract ((ji9) : Int).toNat ((wrap64 ((ji9) + 1)) : Int).toNat).size + x3_1.size ≤ 9223372036854775807
        ·rw [if_pos c13] at H
         have c13b0:=eq_true c13
         have c13b1 : decide (((⟨#[48,49,50,51,52,53,54,55,56,57]⟩ : ByteArray).extract ((ji9) : Int).toNat ((wrap64 ((ji9) + 1)) : Int).toNat).size + x3_1.size ≤ 9223372036854775807) = true:=decide_eq_true c13
         try have c13b2 : (9223372036854775807 < ((⟨#[48,49,50,51,52,53,54,55,56,57]⟩ : ByteArray).extract ((ji9) : Int).toNat ((wrap64 ((ji9) + 1)) : Int).toNat).size + x3_1.size) = False:=eq_false (Nat.not_lt.2 c13)
         have H':=A0_.mk H
         clear H
         go_wp2
         go_roundg k1
         case measure => have:=HK1.out;omega
         case rel => exact ⟨(wrap64 (Int.tdiv x0_1 10)),(((⟨#[48,49,50,51,52,53,54,55,56,57]⟩ : ByteArray).extract ((ji9) : Int).toNat ((wrap64 ((ji9) + 1)) : Int).toNat) ++ x3_1),(by first|rfl|(simp;done)|(simp [*];done)),(by first|rfl|(simp;done)|(simp only [← hji9] <;> (first|rfl|simp))|(simp [*];done)),H',⟨by have:=HK1.out;omega⟩,by repeat (first|exact Drawn0.refl _|apply Drawn0.step)⟩
        ·rw [if_neg c13] at H
         exact absurd H (by simp)
       ·rw [if_neg c12] at H
        exact absurd H (by simp)
      ·rw [if_neg c11] at H
       exact absurd H (by simp)
     ·rw [if_neg c10] at H
      exact absurd H (by simp)
    ·rw [if_neg c8] at H
     have c8b0 : (x3_1.toList == ([] : List UInt8)) = false:=beq_eq_false_iff_ne.mpr c8
     have c8b1 : (x3_1.toList != ([] : List UInt8)) = true:=bne_iff_ne.mpr c8
     obtain rfl:=Option.some.inj H
     go_wp2
     go_ret
     exact ⟨by first|rfl|(simp;done)|(simp [*];done),by repeat (first|exact Drawn0.refl _|apply Drawn0.step)⟩
end Go.Proofs.YtojepjkpnponoaaDoor.Whole

