import Derived.Test.YtdmngdohlobogaaGreatDoorYSHOrder
import Derived.WalkMore
namespace Go.Proofs.YtdmngdohlobogaaGreatDoor.Asc
open Go Go.RowKit Go.Proofs.YtdmngdohlobogaaGreatDoorW.PrintWords Go.Proofs.YtdmngdohlobogaaGreatDoorW.PrintLast Go.Proofs.YtdmngdohlobogaaGreatDoorW.PrintMore
set_option linter.unusedVariables false
set_option linter.unusedSimpArgs false
def cWork (by_ : List S40) (ands : List S125) (i : Int) : Nat → List Bool → List Int → Bool
 |0,_,_ => false
 |k + 1,seen,work => match work.getLast? with
  |none => false
  |some x => if x = i then true else if seen.getD x.toNat false then cWork by_ ands i k seen work.dropLast else cWork by_ ands i k (seen.set x.toNat true) (work.dropLast ++ belowF by_ (ands.getD x.toNat z125))
theorem cWork_nil (by_ : List S40) (ands : List S125) (i : Int) (k : Nat) (seen : List Bool) : cWork by_ ands i k seen [] = false:=by cases k <;> rfl
theorem cWork_snoc (by_ : List S40) (ands : List S125) (i : Int) (k : Nat) (seen : List Bool) (work : List Int) (x : Int) : cWork by_ ands i (k + 1) seen (work ++ [x]) = if x = i then true else if seen.getD x.toNat false then cWork by_ ands i k seen work else cWork by_ ands i k (seen.set x.toNat true) (work ++ belowF by_ (ands.getD x.toNat z125)):=by
 rw [cWork]
 simp
def cFrom (by_ : List S40) (ands : List S125) : List S125 → Nat → Int
 |[],_ => -1
 |x :: xs,i => if cWork by_ ands (i : Int) (2 * ands.length + 2) (List.replicate ands.length false) (belowF by_ x) then (i : Int) else cFrom by_ ands xs (i + 1)
def cycleF (by_ : List S40) (ands : List S125) : Int:=if (orderF by_ ands).length = ands.length then -1 else cFrom by_ ands ands 0
def unseen (l : List Bool) : Nat:=(l.filter (fun b => !b)).length
theorem unseen_set : ∀ (l : List Bool) (i : Nat),i < l.length → l.getD i false = false → unseen (l.set i true) + 1 = unseen l
 |false :: l,0,_,_ => by simp [unseen]
 |true :: l,0,_,h => by simp at h
 |b :: l,i + 1,h,h2 => by
  have:=unseen_set l i (by simpa using h) (by simpa using h2)
  cases b <;> simp only [unseen,List.set_cons_succ,List.filter_cons,Bool.not_true,Bool.not_false,if_true,List.length_cons] at this ⊢ <;> simp_all
theorem unseen_le (l : List Bool) : unseen l ≤ l.length:=List.length_filter_le _ _
theorem make23 (w : World) (n : Nat) (h : n ≤ 1048576) : (Instr.makeSlice 135 (.int .i64 (n : Int)) (.int .i64 (n : Int))).run Tryz.prog w = .ok (.slice (some ⟨w.heap.size,0,none⟩) n n) (w.alloc (.cells (Array.replicate n (Value.bool false)) 4)):=by
 obtain ⟨i0,hi0,hz0,hzs,hzb⟩:=info_parts (show (Tryz.prog.info? 4).map (fun i => (i.zero,i.size,i.bytes)) = some (some (.bool false),1,1) by kernel_rfl)
 have:=run_make (P:=Tryz.prog) w 135 4 i0 (.bool false) Tryz.underlying135 hi0 hz0 .i64 .i64 (n : Int) (n : Int) (by omega) (Int.le_refl _) (by rw [hzb];omega) (by omega)
 rw [this,hzs,Int.toNat_natCast,Nat.mul_one]
 have : madeCells (Value.bool false).cells n = Array.replicate n (Value.bool false):=by
  show madeCells #[Value.bool false] n = _
  rw [madeI]
  simp
 rw [this]
def SB (W : World) (bs : Nat) (seen : List Bool) : Prop:=W.heap[bs]? = some (.cells (seen.map Value.bool).toArray 4 (0,0))
theorem SB.put {W : World} {bs : Nat} {seen : List Bool} (h : SB W bs seen) (x : Nat) : SB (W.setCell ⟨bs,x,none⟩ (.bool true)) bs (seen.set x true):=by
 have:=blk_set h x (.bool true)
 unfold SB
 rw [this]
 simp [List.map_set]
theorem SB.lt {W : World} {bs : Nat} {seen : List Bool} (h : SB W bs seen) : bs < W.heap.size:=(Array.getElem?_eq_some_iff.1 h).1
theorem SB.below {W W1 : World} {bs : Nat} {seen : List Bool} (h : SB W bs seen) (hb : Below W.heap.size W W1) : SB W1 bs seen:=(hb.block bs h.lt).trans h
theorem SB.ne {W : World} {bs g0 : Nat} {seen : List Bool} {v : Value} {l : List Int} (h : SB W bs seen) (ho : OwnI W g0 v l) : ∀ k,v.ownBlock = some k → k ≠ bs:=by
 rintro k hk rfl
 exact own_ne ho hk h (by decide)
set_option maxHeartbeats 8000000 in
set_option maxRecDepth 100000 in
theorem cycle_calls {g b : Nat} {c : S65} {a : CA} {by_ : List S40} {w : World} (hL : LK w g b c a by_) (hC : CR w c a) (hm1 : c.f0 ≤ 16384) (hn : (by_.length : Int) = c.f0 + 1) (hn8 : c.f8.length ≤ 16384)
  (hx : ∀ x ∈ c.f8,(0 ≤ x.f1 ∧ x.f1 ≤ 2 * c.f0 + 1) ∧ (0 ≤ x.f2 ∧ x.f2 ≤ 2 * c.f0 + 1)) (hby : ∀ m ∈ by_,m.f0 = 3 → 0 ≤ m.f1 ∧ m.f1 < c.f8.length) :
  Calls Tryz.prog 87 #[.pointer (some ⟨g,0,none⟩)] w fun e w' => e = .returned (.int .i64 (cycleF by_ c.f8)) ∧ Below w.heap.size w w':=by
 have hu150:=Tryz.underlying127
 have hu65:=Tryz.underlying29
 have HL:=A0_.mk hL
 have HC:=A0_.mk hC
 have HX:=A0_.mk hx
 have HBY:=A0_.mk hby
 have HM1:=A0_.mk hm1
 have HN:=A0_.mk hn
 have HN8:=A0_.mk hn8
 clear hL hC hx hby hm1 hn hn8
 obtain ⟨RES,hRES⟩ : ∃ RES,cycleF by_ c.f8 = RES:=⟨_,rfl⟩
 rw [hRES]
 have HRES:=A0_.mk hRES
 clear hRES
 go_enter Tryz.func87,Tryz.ntmps87
 go_wp2
 go_step3
 go_wp2
 refine wp_normal' ?_
 refine start_ (n:=10) (S:=fun w' => Below w.heap.size w w') (ds:=[]) (Array.replicate 10 false) (by kernel_rfl) rfl rfl (below_drew (Below.refl _ _)) (fun hHeld => ?_)
 refine pure_ (i:=0) (N:=some 7) (v:=?_) (a':=?_) (zA_ 10 1) rfl rfl (by kernel_rfl) (fun _ _ _ h => by cases h.1) (Or.inl ⟨by rfl,?_⟩) ?_ ?_
 rotate_left
 ·intro w'
  go_simp
  with_reducible rfl
 rotate_left
 ·simp only [Act.put,sA_,sB_,sC_]
  rfl
 refine pure_ (i:=3) (N:=some 10) (v:=?_) (a':=?_) (zA_ 10 9) rfl rfl (by kernel_rfl) (fun _ _ _ h => by cases h.1) (Or.inl ⟨by rfl,?_⟩) ?_ ?_
 rotate_left
 ·intro w'
  go_simp
  with_reducible rfl
 rotate_left
 ·simp only [Act.put,sA_,sB_,sC_]
  rfl
 refine pure_ (i:=4) (N:=some 11) (v:=?_) (a':=?_) (zA_ 10 25) rfl rfl (by kernel_rfl) (fun _ _ _ h => by cases h.1) (Or.inl ⟨by rfl,?_⟩) ?_ ?_
 rotate_left
 ·intro w'
  go_simp
  with_reducible rfl
 rotate_left
 ·simp only [Act.put,sA_,sB_,sC_]
  rfl
 refine pure_ (i:=5) (N:=some 12) (v:=?_) (a':=?_) (zA_ 10 57) rfl rfl (by kernel_rfl) (fun _ _ _ h => by cases h.1) (Or.inl ⟨by rfl,?_⟩) ?_ ?_
 rotate_left
 ·intro w'
  go_simp
  with_reducible rfl
 rotate_left
 ·simp only [Act.put,sA_,sB_,sC_]
  rfl
 refine pure_ (i:=6) (N:=some 13) (v:=?_) (a':=?_) (zA_ 10 121) rfl rfl (by kernel_rfl) (fun _ _ _ h => by cases h.1) (Or.inl ⟨by rfl,?_⟩) ?_ ?_
 rotate_left
 ·intro w'
  go_simp
  with_reducible rfl
 rotate_left
 ·simp only [Act.put,sA_,sB_,sC_]
  rfl
 refine take_ (i:=7) (N:=some 14) (v:=?_) (a':=?_) (zA_ 10 249) rfl rfl (by kernel_rfl) (fun _ _ _ h => by cases h.1) (Or.inl ⟨by rfl,?_⟩) hHeld ?_ ?_
 rotate_left
 ·intro w' s_
  have y8 : w'.cell? ⟨g,8,none⟩ = some (.slice a.A8 c.f8.length a.c8):=((HL.out.below s_).cell 8).trans rfl
  go_simp
  with_reducible rfl
 rotate_left
 ·simp only [Act.put,sA_,sB_,sC_]
  rfl
 refine pure_ (i:=8) (N:=some 15) (v:=?_) (a':=?_) (zA_ 10 505) rfl rfl (by kernel_rfl) (fun _ _ _ h => by cases h.1) (Or.inl ⟨by rfl,?_⟩) ?_ ?_
 rotate_left
 ·intro w'
  go_simp
  with_reducible rfl
 rotate_left
 ·simp only [Act.put,sA_,sB_,sC_]
  rfl
 refine one_ (i:=1) (N:=some 8) (zA_ 10 507) rfl rfl (by kernel_rfl) (by decide) (fun K hK => ?_)
 refine goes_ Tryz.func68 (by kernel_rfl) rfl #[.pointer (some ⟨g,0,none⟩)] (by rfl) rfl rfl (by (try simp only [List.map_toArray,List.map_cons,List.map_nil]);first|done|rfl) ?_
 with_reducible refine (order_calls (HL.out.below hHeld) (HC.out.below hHeld) HM1.out HN.out HN8.out HX.out HBY.out).mono ?_
 rintro e w9 ⟨u,rfl,hu,hb⟩
 obtain ⟨Au,nu,rfl⟩:=Kd.R_slice hu
 refine ⟨_,rfl,?_⟩
 have hHn:=hHeld.trans (lower_ hHeld.size hb)
 clear hHeld hb hu
 refine hK.out _ _ hHn (fun hHeld => ?_)
 clear hK K hHn
 refine norm_ (a':=?_) ?_ ?_
 rotate_left
 ·simp only [Act.put,sA_,sB_,sC_]
  rfl
 refine pure_ (i:=2) (N:=some 9) (v:=?_) (a':=?_) (zA_ 10 511) rfl rfl (by kernel_rfl) (fun _ _ _ h => by cases h.1) (Or.inl ⟨by rfl,?_⟩) ?_ ?_
 rotate_left
 ·intro w'
  go_simp
  with_reducible rfl
 rotate_left
 ·simp only [Act.put,sA_,sB_,sC_]
  rfl
 refine pure_ (i:=9) (N:=some 16) (v:=?_) (a':=?_) (zA_ 10 1023) rfl rfl (by kernel_rfl) (fun _ _ _ h => by cases h.1) (Or.inl ⟨by rfl,?_⟩) ?_ ?_
 rotate_left
 ·intro w'
  go_simp
  with_reducible rfl
 rotate_left
 ·simp only [Act.put,sA_,sB_,sC_]
  rfl
 refine done_ (by kernel_rfl) ?_
 have HB:=A0_.mk hHeld
 clear hHeld
 refine ⟨rfl,?_⟩
 rename_i hKK
 refine hKK _ _ ?_
 clear hKK
 have hRES:=HRES.out
 clear HRES
 unfold cycleF at hRES
 by_cases co : (orderF by_ c.f8).length = c.f8.length
 ·rw [if_pos co] at hRES
  have cob : (((orderF by_ c.f8).length : Int) == (c.f8.length : Int)) = true:=by rw [co];exact beq_self_eq_true _
  generalize (orderF by_ c.f8).length = ol at *
  clear co
  subst hRES
  go_wp2
  repeat (go_quiet (fail);try go_wp2)
  rw [Exit.noGoto_ret]
  go_ret
  exact ⟨rfl,HB.out⟩
 ·rw [if_neg co] at hRES
  have cob : (((orderF by_ c.f8).length : Int) == (c.f8.length : Int)) = false:=beq_eq_false_iff_ne.mpr (by omega)
  have coi : ((orderF by_ c.f8).length : Int) ≠ (c.f8.length : Int):=by omega
  generalize (orderF by_ c.f8).length = ol at *
  have HF:=A0_.mk hRES
  clear hRES
  have y8 : w9.cell? ⟨g,8,none⟩ = some (.slice a.A8 c.f8.length a.c8):=((HL.out.below HB.out).cell 8).trans rfl
  go_wp2
  go_step3
  go_wp2
  repeat (go_quiet (fail);try go_wp2)
  clear y8
  (try simp only [Act.put,sA_,sB_,sC_])
  (try rw [cob])
  go_loopg [23] (c.f8.length + 1) (fun kq v23 w' => ∃ (i : Nat),v23 = .int .i64 i ∧ A0_ (i + kq = c.f8.length + 1) ∧ A0_ (i ≤ c.f8.length) ∧ A0_ (Below w.heap.size w w') ∧ A0_ (cFrom by_ c.f8 (c.f8.drop i) i = RES))
  case atStart => exact ⟨0,rfl,⟨by omega⟩,⟨Nat.zero_le _⟩,HB,⟨by rw [List.drop_zero];exact HF.out⟩⟩
  case round =>
   clear HB HF
   obtain ⟨i,rfl,HK,HI,HB,HF⟩:=hrel
   by_cases ci : i < c.f8.length
   ·obtain ⟨k0,rfl⟩ : ∃ k0,gk = k0 + 1:=by
     cases gk with
     |zero => have:=HK.out;omega
     |succ k0 => exact ⟨k0,rfl⟩
    have cib : decide ((i : Int) < (c.f8.length : Int)) = true:=decide_eq_true (by omega)
    have hwi : IntKind.i64.wrap ((i : Int) + 1) = ((i + 1 : Nat) : Int):=by have:=HN8.out;rw [IntKind.wrap_i64];omega
    have y8 : wr.cell? ⟨g,8,none⟩ = some (.slice a.A8 c.f8.length a.c8):=((HL.out.below HB.out).cell 8).trans rfl
    have mk:=make23 wr c.f8.length (by have:=HN8.out;omega)
    have hB1 : Below w.heap.size w (wr.alloc (.cells (Array.replicate c.f8.length (Value.bool false)) 4)):=HB.out.trans (lower_ HB.out.size (eA_ (Below.refl _ _) _))
    have HS1 : A0_ (SB (wr.alloc (.cells (Array.replicate c.f8.length (Value.bool false)) 4)) wr.heap.size (List.replicate c.f8.length false)):=⟨by have:=blk_new wr (.cells (Array.replicate c.f8.length (Value.bool false)) 4);unfold SB;rw [this];simp⟩
    have HBS : A0_ (w.heap.size ≤ wr.heap.size):=⟨HB.out.size⟩
    have hx:=HX.out c.f8[i] (List.getElem_mem _)
    have BC:=A0_.mk (below_calls (HL.out.below hB1) (HC.out.below hB1) i ci hx.1 hx.2 HM1.out HN.out)
    have HB1:=A0_.mk hB1
    have hF:=HF.out
    rw [List.drop_eq_getElem_cons ci,cFrom] at hF
    have hlen2:=belowF_len by_ c.f8[i]
    have hmem:=belowF_mem HBY.out c.f8[i]
    clear HF hB1 hx HB
    go_upto_region 7 with (fail)
    clear mk y8
    generalize wr.alloc (.cells (Array.replicate c.f8.length (Value.bool false)) 4) = W1 at BC HB1 HS1 ⊢
    generalize wr.heap.size = bs at HS1 HBS ⊢
    generalize belowF by_ c.f8[i] = w0 at BC hF hlen2 hmem
    obtain ⟨RW,hRW⟩ : ∃ RW,cWork by_ c.f8 (i : Int) (2 * c.f8.length + 2) (List.replicate c.f8.length false) w0 = RW:=⟨_,rfl⟩
    rw [hRW] at hF
    have HRW:=A0_.mk hRW
    have HF:=A0_.mk hF
    have HM0 : A0_ (w0.length + 2 * unseen (List.replicate c.f8.length false) ≤ 2 * c.f8.length + 2):=⟨by have:=unseen_le (List.replicate c.f8.length false);rw [List.length_replicate] at this;omega⟩
    have HSL : A0_ ((List.replicate c.f8.length false).length = c.f8.length):=⟨by simp⟩
    have HME:=A0_.mk hmem
    clear hRW hF hlen2 hmem
    generalize List.replicate c.f8.length false = seen0 at HS1 HRW HM0 HSL
    go_wp2_with (first|((with_reducible refine gate_callee (f:=100) rfl ?_);refine goesL_ (some 35) rfl rfl Tryz.func100 (by kernel_rfl) rfl #[.pointer (some ⟨g,0,none⟩),.int .i64 (i : Int)] rfl (by (try simp only [List.map_toArray,List.map_cons,List.map_nil]);first|done|rfl) ?_;(with_reducible refine (BC.out).mono ?_);rintro e w2 ⟨v,rfl,hV,hB2⟩;refine ⟨_,rfl,?_⟩;have HV:=A0_.mk (show OwnI w2 w.heap.size v w0 from Kd.R_lower hV HB1.out.size);have HS:=A0_.mk (HS1.out.below hB2);have HB:=A0_.mk (HB1.out.trans (lower_ HB1.out.size hB2));clear hV hB2 BC)|go_in)
    repeat (go_quiet (fail);try go_wp2)
    (try simp only [Act.put,sA_,sB_,sC_])
    go_loopg [5] (2 * c.f8.length + 2) (fun kq v5 w' => ∃ (seen : List Bool) (work : List Int),A0_ (OwnI w' w.heap.size v5 work) ∧ A0_ (SB w' bs seen) ∧ A0_ (Below w.heap.size w w') ∧ A0_ (seen.length = c.f8.length) ∧ A0_ (work.length + 2 * unseen seen ≤ kq ∧ kq ≤ 2 * c.f8.length + 2) ∧ A0_ (∀ y ∈ work,0 ≤ y ∧ y < c.f8.length) ∧ A0_ (cWork by_ c.f8 (i : Int) kq seen work = RW))
    case atStart => exact ⟨seen0,w0,HV,HS,HB,HSL,⟨HM0.out,Nat.le_refl _⟩,HME,HRW⟩
    case round =>
     clear HV HS HB HSL HM0 HME HRW HS1 HB1
     obtain ⟨seen,work,HV,HS,HB,HSL,HM,HME,HRW⟩:=hrel
     rcases List.eq_nil_or_concat work with rfl|⟨work,x,rfl⟩
     ·obtain ⟨A5,n5,e5⟩:=Kd.R_slice HV.out
      rw [List.length_nil] at e5
      subst e5
      have hr:=HRW.out
      rw [cWork_nil] at hr
      have hF:=HF.out
      rw [← hr,if_neg (by decide)] at hF
      have HF2:=A0_.mk hF
      clear hr hF HRW HF HV
      go_wp2
      repeat (go_quiet (fail);try go_wp2)
      go_roundg k0
      case measure => omega
      case rel => exact ⟨i + 1,rfl,⟨by have:=HK.out;omega⟩,⟨by omega⟩,HB,HF2⟩
     ·rw [List.concat_eq_append] at HV HM HME HRW
      have hm:=HM.out
      rw [List.length_append,List.length_singleton] at hm
      obtain ⟨k1,rfl⟩ : ∃ k1,gk = k1 + 1:=by
       cases gk with
       |zero => omega
       |succ k1 => exact ⟨k1,rfl⟩
      have hr:=HRW.out
      rw [cWork_snoc] at hr
      have hxn:=HME.out x (by simp)
      have HME2 : A0_ (∀ y ∈ work,0 ≤ y ∧ y < c.f8.length):=⟨fun y hy => HME.out y (List.mem_append_left _ hy)⟩
      rcases HV.out.cases with ⟨_,hx⟩|⟨gr,cap,cur,rfl,h1,h2,h3,h4,h5,h6⟩
      ·simp at hx
      ·obtain ⟨nn,hnn⟩ : ∃ nn,(work ++ [x]).length = nn:=⟨_,rfl⟩
       obtain ⟨mm,hmm⟩ : ∃ mm,work.length = mm:=⟨_,rfl⟩
       have hnm : nn = mm + 1:=by rw [← hnn,← hmm];simp
       rw [hnn] at h3 h6
       rw [hnn]
       have hcx : wr.cell? ⟨gr,mm,none⟩ = some (.int .i64 x):=cells_of h2 (by rw [hnn];exact h6) mm (.int .i64 x) (by rw [← hmm];simp [encI])
       have hw1 : IntKind.i64.wrap ((nn : Int) - 1) = (mm : Int):=by have:=HN8.out;rw [IntKind.wrap_i64];omega
       have p0 : (0 ≤ (mm : Int)) = True:=eq_true (by omega)
       have p1 : ((mm : Int) < (nn : Int)) = True:=eq_true (by omega)
       have p2 : ((mm : Int) ≤ (cap : Int)) = True:=eq_true (by omega)
       have p3 : (0 : Int) < (nn : Int):=by omega
       have p4 : 0 < nn:=by omega
       have hI2 : OwnI wr w.heap.size (.slice (some ⟨gr,0,none⟩) mm cap) work:=OwnI.mk' hmm h1 h2 (by omega) h4 h5 (by
        have e : (cur.toList.take nn).take mm = (encI (work ++ [x])).take mm:=by rw [h6]
        rw [List.take_take,Nat.min_eq_left (by omega)] at e
        rw [e]
        simp only [encI,List.map_append]
        exact List.take_left' (by simp [hmm]))
       have HI2:=A0_.mk hI2
       have HNM:=A0_.mk hnm
       have HMM:=A0_.mk hmm
       have HHM:=A0_.mk hm
       clear h2 h3 h4 h5 h6 h1 hI2 hnm hnn hmm HV HM HME HRW hm
       by_cases cx : x = (i : Int)
       ·rw [if_pos cx] at hr
        have hF:=HF.out
        rw [← hr,if_pos rfl] at hF
        subst hF
        subst cx
        clear hr HF hxn
        go_wp2
        repeat (go_quiet (fail);try go_wp2)
        rw [Exit.noGoto_ret]
        go_ret
        exact ⟨rfl,HB.out⟩
       ·have cxb : (x == (i : Int)) = false:=beq_eq_false_iff_ne.mpr cx
        rw [if_neg cx] at hr
        obtain ⟨x,rfl⟩ : ∃ x' : Nat,x = (x' : Int):=⟨x.toNat,by omega⟩
        rw [Int.toNat_natCast] at hr
        have cxn : ¬ x = i:=by omega
        have q0 : (0 ≤ (x : Int)) = True:=eq_true (by omega)
        have q1 : ((x : Int) < (c.f8.length : Int)) = True:=eq_true (by omega)
        have hxl : x < seen.length:=by have:=HSL.out;omega
        obtain ⟨sx,hsx⟩ : ∃ sx,seen.getD x false = sx:=⟨_,rfl⟩
        have z0 : wr.cell? ⟨bs,x,none⟩ = some (.bool sx):=by
         rw [bC_ HS.out x,← hsx]
         simp [hxl]
        have z1:=bF_ HS.out x
        rw [hsx] at hr
        have HSX:=A0_.mk hsx
        clear hsx
        cases sx with
        |true =>
         rw [if_pos rfl] at hr
         have HRW:=A0_.mk hr
         clear hr hxn hxl
         go_wp2
         repeat (go_quiet (fail);try go_wp2)
         go_roundg k1
         case measure => omega
         case rel => exact ⟨seen,work,HI2,HS,HB,HSL,⟨by have:=HHM.out;omega⟩,HME2,HRW⟩
        |false =>
         rw [if_neg (by decide)] at hr
         have HRW:=A0_.mk hr
         have hxc : x < c.f8.length:=by omega
         have hus:=unseen_set seen x hxl HSX.out
         have HUS:=A0_.mk hus
         have hget : c.f8.getD x z125 = c.f8[x]:=by simp [hxc]
         have hB3 : Below w.heap.size w (wr.setCell ⟨bs,x,none⟩ (.bool true)):=HB.out.trans (below_cells HBS.out [_] x (Below.refl _ _))
         have HS3:=A0_.mk (HS.out.put x)
         have HI3 : A0_ (OwnI (wr.setCell ⟨bs,x,none⟩ (.bool true)) w.heap.size (.slice (some ⟨gr,0,none⟩) mm cap) work):=⟨HI2.out.setL (HS.out.ne HI2.out)⟩
         have hx:=HX.out c.f8[x] (List.getElem_mem _)
         have BC:=A0_.mk (below_calls (HL.out.below hB3) (HC.out.below hB3) x hxc hx.1 hx.2 HM1.out HN.out)
         have HLEN:=A0_.mk (belowF_len by_ c.f8[x])
         have HMEM:=A0_.mk (belowF_mem HBY.out c.f8[x])
         have HB3:=A0_.mk hB3
         have HSL3 : A0_ ((seen.set x true).length = c.f8.length):=⟨by rw [List.length_set];exact HSL.out⟩
         rw [hget] at HRW
         clear hr hxn hxl hus hB3 hx hget
         generalize belowF by_ c.f8[x] = nx at BC HLEN HMEM HRW
         clear hxc
         go_upto_region 15 with (fail)
         clear z0 z1 hcx
         generalize wr.setCell ⟨bs,x,none⟩ (.bool true) = W3 at BC HS3 HI3 HB3 ⊢
         go_wp2_with (first|((with_reducible refine gate_callee (f:=100) rfl ?_);refine goesL_ (some 65) rfl rfl Tryz.func100 (by kernel_rfl) rfl #[.pointer (some ⟨g,0,none⟩),.int .i64 (x : Int)] rfl (by (try simp only [List.map_toArray,List.map_cons,List.map_nil]);first|done|rfl) ?_;(with_reducible refine (BC.out).mono ?_);rintro e w4 ⟨v,rfl,hV,hB2⟩;refine ⟨_,rfl,?_⟩;have HI4:=A0_.mk (HI3.out.move (fun k hk => hB2.block k (HI3.out.lt k hk).2));have HS4:=A0_.mk (HS3.out.below hB2);have HB4:=A0_.mk (HB3.out.trans (lower_ HB3.out.size hB2));have HSZ : A0_ (w.heap.size ≤ w4.heap.size):=⟨Nat.le_trans HB3.out.size hB2.size⟩;obtain ⟨A7,c7,rfl,_,hrow⟩:=Kd.R_reads hV;have HROW:=A0_.mk hrow;clear hV hB2 BC hrow HI3 HS3 HB3)|(at_builtin;refine Kd.R_append_rows (Kd.int .i64) (Rr:=(Kd.int .i64).K w4) (w0:=w) w.heap.size rfl (.tmp 62) (.tmp 65) 22 3 (.int .i64 0) 8 rfl Tryz.underlying22 info3 rfl (by decide) (by decide) _ work nx A7 nx.length c7 (fun _ => True) (fun _ => False) rfl rfl HI4.out HROW.out (fun _ _ h => h) (fun _ h => h.elim) (fun _ _ => trivial) HB4.out HSZ.out (by have:=HHM.out;have:=HN8.out;have:=HLEN.out;omega) ?_;intro v5 w5 hr5 hb5 hg5 hat5;have HI5:=A0_.mk (show OwnI w5 w.heap.size v5 (work ++ nx) from hr5);have HB5:=A0_.mk hb5;have HS5 : A0_ (SB w5 bs (seen.set x true)):=⟨(hg5.block bs HS4.out.lt (fun e => HS4.out.ne HI4.out bs e.symm rfl)).trans HS4.out⟩;clear hr5 hb5 hg5 hat5 HI4 HS4 HB4)|go_in)
         repeat (go_quiet (fail);try go_wp2)
         go_roundg k1
         case measure => omega
         case rel => exact ⟨seen.set x true,work ++ nx,HI5,HS5,HB5,HSL3,⟨by have:=HHM.out;have:=HUS.out;have:=HLEN.out;rw [List.length_append];omega⟩,⟨fun y hy => (List.mem_append.1 hy).elim (HME2.out y) (HMEM.out y)⟩,HRW⟩
   ·have cib : decide ((i : Int) < (c.f8.length : Int)) = false:=decide_eq_false (by omega)
    have hF:=HF.out
    rw [List.drop_eq_nil_of_le (by omega),cFrom] at hF
    subst hF
    clear HF
    go_wp2
    repeat (go_quiet (fail);try go_wp2)
    rw [Exit.noGoto_ret]
    go_ret
    exact ⟨rfl,HB.out⟩
end Go.Proofs.YtdmngdohlobogaaGreatDoor.Asc

