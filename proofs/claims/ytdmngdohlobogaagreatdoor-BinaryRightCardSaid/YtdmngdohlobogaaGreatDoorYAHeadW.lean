import Derived.Test.YtdmngdohlobogaaGreatDoorYM7
namespace Go.Proofs.YtdmngdohlobogaaGreatDoor.Asc
open Go Go.RowKit Go.Proofs.YtdmngdohlobogaaGreatDoorW.PrintWords Go.Proofs.YtdmngdohlobogaaGreatDoorW.PrintLast Go.Proofs.YtdmngdohlobogaaGreatDoorW.PrintMore
set_option linter.unusedVariables false
set_option linter.unusedSimpArgs false
def aagB : ByteArray:=⟨#[97,97,103]⟩
def aigB : ByteArray:=⟨#[97,105,103]⟩
def emptyB : ByteArray:=⟨#[]⟩
def nine (ns : List Int) : List Int:=ns ++ List.replicate (9 - ns.length) 0
def headErr (c : Int) : ByteArray × List Int × Int × Int:=(emptyB,[],0,c)
def headOf (l : ByteArray) (ended : Bool) (word : ByteArray) (n : List Int × Bool) : ByteArray × List Int × Int × Int :=
 if ended = false then headErr 40
 else if n.2 = false then headErr 40
 else if word ≠ aagB ∧ word ≠ aigB then headErr 40
 else if n.1.length < 5 then headErr 40
 else if 9 < n.1.length then headErr 40
 else if 16384 < (nine n.1).getD 0 0 then headErr 41
 else if (nine n.1).getD 0 0 < (nine n.1).getD 1 0 + (nine n.1).getD 2 0 + (nine n.1).getD 4 0 then headErr 41
 else if ((nine n.1).drop 1).any (fun x => decide (16384 < x)) = true then headErr 41
 else (word,nine n.1,(l.size : Int) + 1,0)
def headF (s : ByteArray) : ByteArray × List Int × Int × Int :=
 if 262144 < s.size then headErr 2 else headOf (cutS s 10).1 (cutS s 10).2.2 (cutS (cutS s 10).1 32).1 (numsR (cutS (cutS s 10).1 32).2.1)
def HeadEnd (w : World) (r : ByteArray × List Int × Int × Int) (e : Ending) (w' : World) : Prop :=
 ∃ v1,e = .returned (.tuple #[.string r.1,v1,.int .i64 r.2.2.1,.agg #[.int .i64 0,.int .i64 r.2.2.2]]) ∧ Kd.R (Kd.int .i64) 3 w' w.heap.size (fun _ => True) v1 r.2.1 ∧ Below w.heap.size w w'
theorem numA_range (x : ByteArray) : 0 ≤ (numA x).1 ∧ (numA x).1 ≤ 2147483647:=by
 unfold numA
 split
 ·rename_i u hu
  have:=Lib.parseUintB_le hu
  split
  ·exact ⟨by decide,by decide⟩
  ·constructor
   ·show (0 : Int) ≤ (u : Int)
    omega
   ·show (u : Int) ≤ 2147483647
    omega
 ·exact ⟨by decide,by decide⟩
theorem numsA_range : ∀ (l : List ByteArray) (ns : List Int),numsA l = some ns → ∀ x ∈ ns,0 ≤ x ∧ x ≤ 2147483647
 |[],ns,h => by
  simp [numsA] at h
  subst h
  intro x hx
  cases hx
 |y :: l,ns,h => by
  simp only [numsA] at h
  split at h
  ·obtain ⟨qs,hq,rfl⟩:=Option.map_eq_some_iff.1 h
   intro x hx
   rcases List.mem_cons.1 hx with rfl|hx
   ·exact numA_range y
   ·exact numsA_range l qs hq x hx
  ·cases h
theorem numsR_range {s : ByteArray} {ns : List Int} {b : Bool} (h : numsR s = (ns,b)) : ∀ x ∈ ns,0 ≤ x ∧ x ≤ 2147483647:=by
 unfold numsR numbersF at h
 split at h
 ·injection h with h1 h2
  subst h1
  intro x hx
  cases hx
 ·rename_i ns' he
  injection h with h1 h2
  subst h1
  exact numsA_range _ _ he
theorem numsR_len {s : ByteArray} {ns : List Int} {b : Bool} (h : numsR s = (ns,b)) : ns.length ≤ s.size + 1:=by
 unfold numsR numbersF at h
 split at h
 ·injection h with h1 h2
  subst h1
  exact Nat.zero_le _
 ·rename_i ns' he
  injection h with h1 h2
  subst h1
  rw [numsA_len _ _ he]
  exact fragsB_len s
theorem nine_range {ns : List Int} (h : ∀ x ∈ ns,0 ≤ x ∧ x ≤ 2147483647) : ∀ x ∈ nine ns,0 ≤ x ∧ x ≤ 2147483647:=by
 intro x hx
 unfold nine at hx
 rcases List.mem_append.1 hx with hx|hx
 ·exact h x hx
 ·rw [(List.mem_replicate.1 hx).2]
  exact ⟨by decide,by decide⟩
theorem nine_len {ns : List Int} (h : ns.length ≤ 9) : (nine ns).length = 9:=by
 unfold nine
 simp
 omega
theorem list9 {l : List Int} (h : l.length = 9) : ∃ a b c d e f g i j,l = [a,b,c,d,e,f,g,i,j]:=by
 match l,h with
 |[a,b,c,d,e,f,g,i,j],_ => exact ⟨a,b,c,d,e,f,g,i,j,rfl⟩
theorem bytes_ne {s : ByteArray} {l : List UInt8} (h : s ≠ ⟨l.toArray⟩) : (s.toList == l) = false:=by
 refine beq_eq_false_iff_ne.mpr (fun e => h ?_)
 have h2 : s.data.toList = l:=by rw [← Lib.toList_data];exact e
 cases s with
 |mk d =>
  cases d with
  |mk x =>
   have h3 : x = l:=h2
   subst h3
   rfl
theorem info40 : (Tryz.prog.info? 32).map (·.size) = some 2:=by kernel_rfl
theorem head_ret {w W : World} {tm : Array Value} {word : ByteArray} {v1 : Value} {k : List Int} {e c : Int} (h2 : tm.getD 2 undef = .string word) (h3 : tm.getD 3 undef = v1) (h4 : tm.getD 4 undef = .int .i64 e) (h5 : tm.getD 5 undef = .pointer (some ⟨w.heap.size,0,none⟩))
  (hF : W.heap[w.heap.size]? = some (.cells #[.int .i64 0,.int .i64 c] 32 (0,0))) (hr : Kd.R (Kd.int .i64) 3 W w.heap.size (fun _ => True) v1 k) (hB : Below w.heap.size w W) :
  bodyPost Tryz.prog Tryz.f18 (HeadEnd w (word,k,e,c)) .ret { tmps:=tm,defers:=[] } W:=by
 have h:=results_list (P:=Tryz.prog) (fn:=Tryz.f18) (tmps:=tm) (w:=W) (rs:=[.tmp 2,.tmp 3,.tmp 4,.cell 5 32]) rfl (by simp) (.tmp (.tmp (.tmp (.cell w.heap.size 32 _ (0,0) _ h5 hF Tryz.underlying32 rfl info40 .nil))))
 rw [h2,h3,h4] at h
 exact bodyPost_ret h rfl ⟨v1,rfl,hr,hB⟩
theorem head_long {w : World} {s : ByteArray} (hs : 262144 < s.size) (hl : s.size ≤ 140737488355328) : Calls Tryz.prog 18 #[.string s] w (HeadEnd w (headErr 2)):=by
 have b1 : decide ((262144 : Int) < (s.size : Int)) = true:=decide_eq_true (by omega)
 have b1' : (262144 : Int) < (s.size : Int):=by omega
 clear hs hl
 go_enter Tryz.func18,Tryz.ntmps18
 go_wp2
 exact head_ret rfl rfl rfl rfl (blk_new w _) (Kd.R_nil _ _ _ _ _) (eA_ (Below.refl _ _) _)
theorem info3s : (Tryz.prog.info? 3).map (·.size) = some 1:=by kernel_rfl
theorem made9 : madeCells #[Value.int .i64 0] 9 = #[.int .i64 0,.int .i64 0,.int .i64 0,.int .i64 0,.int .i64 0,.int .i64 0,.int .i64 0,.int .i64 0,.int .i64 0]:=by kernel_rfl
theorem make9 : ∀ W : World,(Instr.makeSlice 22 (.int .i64 9) (.int .i64 9)).run Tryz.prog W = .ok (.slice (some ⟨W.heap.size,0,none⟩) 9 9) (W.alloc (.cells #[.int .i64 0,.int .i64 0,.int .i64 0,.int .i64 0,.int .i64 0,.int .i64 0,.int .i64 0,.int .i64 0,.int .i64 0] 3)):=fun W => (print_make 22 3 .i64 8 Tryz.underlying22 info3 (by decide) 9 (by decide) W).trans (by rw [made9])
theorem own9 (W : World) (base : Nat) (hb : base ≤ W.heap.size) : Kd.R (Kd.int .i64) 3 (W.alloc (.cells #[.int .i64 0,.int .i64 0,.int .i64 0,.int .i64 0,.int .i64 0,.int .i64 0,.int .i64 0,.int .i64 0,.int .i64 0] 3)) base (fun _ => True) (.slice (some ⟨W.heap.size,0,none⟩) 9 9) [0,0,0,0,0,0,0,0,0] :=
 Kd.R_of_own (own_lit W base 3 .i64 [0,0,0,0,0,0,0,0,0] hb (by decide)) (fun _ _ => trivial)
theorem nine_eq {ns : List Int} (h : ns.length ≤ 9) : ns.take (min ns.length ([0,0,0,0,0,0,0,0,0] : List Int).length) ++ ([0,0,0,0,0,0,0,0,0] : List Int).drop (min ns.length ([0,0,0,0,0,0,0,0,0] : List Int).length) = nine ns:=by
 have e : ([0,0,0,0,0,0,0,0,0] : List Int) = List.replicate 9 0:=rfl
 rw [e]
 unfold nine
 rw [List.length_replicate,Nat.min_eq_left h,List.take_length,List.drop_replicate]
theorem row9 {W : World} {base g : Nat} {k : List Int} (h : Kd.R (Kd.int .i64) 3 W base (fun _ => True) (.slice (some ⟨g,0,none⟩) 9 9) k) : ∀ i,i < 9 → W.cell? ⟨g,i,none⟩ = some (.int .i64 (k.getD i 0)):=by
 have hl : 9 = k.length:=(Kd.R_reads' h).1
 obtain ⟨g',cp,he,_,hc⟩:=row_some h (by omega)
 injection he with he
 injection he with he
 injection he with he
 subst he
 intro i hi
 exact hc i (by omega)
set_option maxHeartbeats 1000000 in
set_option maxRecDepth 100000 in
theorem head_calls {w : World} {s : ByteArray} (hG : GV w) (hs : s.size ≤ 262144) : Calls Tryz.prog 18 #[.string s] w (HeadEnd w (headF s)):=by
 have hz1:=cut_size s 10
 have hz2:=cut_size (cutS s 10).1 32
 have hC1:=cut_calls s 10
 have hC2:=cut_calls (cutS s 10).1 32
 obtain ⟨fin,hfin⟩ : ∃ fin,headF s = fin:=⟨_,rfl⟩
 rw [hfin]
 unfold headF at hfin
 rw [if_neg (by omega)] at hfin
 obtain ⟨l,l2,ended,hc1⟩ : ∃ l l2 b,cutS s 10 = (l,l2,b):=⟨_,_,_,rfl⟩
 rw [hc1] at hz1 hz2 hC1 hC2 hfin
 dsimp only at hz1 hz2 hC1 hC2 hfin
 obtain ⟨word,rest,b3,hc2⟩ : ∃ x1 x2 x3,cutS l 32 = (x1,x2,x3):=⟨_,_,_,rfl⟩
 rw [hc2] at hz2 hC2 hfin
 dsimp only at hz2 hC2 hfin
 obtain ⟨ns,ok,hn⟩ : ∃ ns ok,numsR rest = (ns,ok):=⟨_,_,rfl⟩
 rw [hn] at hfin
 have hrange:=numsR_range hn
 have hnl:=numsR_len hn
 have hbl : ns.length ≤ 262145:=by omega
 have HC1:=A0_.mk hC1
 have HC2:=A0_.mk hC2
 have HN:=A0_.mk hn
 have HG:=A0_.mk hG
 have HZ:=A0_.mk (show s.size ≤ 1048576 ∧ l.size ≤ 1048576 ∧ rest.size ≤ 1048576 by omega)
 have HRG:=A0_.mk hrange
 have HB0:=A0_.mk (eA_ (Below.refl w.heap.size w) (.cells #[.int .i64 0,.int .i64 0] 32))
 have HF0:=A0_.mk (blk_new w (.cells #[.int .i64 0,.int .i64 0] 32))
 have b1 : decide ((262144 : Int) < (s.size : Int)) = false:=decide_eq_false (by omega)
 have b1' : (s.size : Int) ≤ 262144:=by omega
 unfold headOf at hfin
 dsimp only at hfin
 clear hz1 hz2 hC1 hC2 hc1 hc2 hn hrange hnl hG hs
 cases ended with
 |false =>
  rw [if_pos rfl] at hfin
  subst hfin
  go_enter Tryz.func18,Tryz.ntmps18
  go_wp2_with (first|(go_at_call 51;refine (HC1.out _ (GV_below HG.out HB0.out) HZ.out.1).mono ?_;rintro e w1 ⟨rfl,hb⟩;have HB1:=A0_.mk (HB0.out.trans (hb.mono HB0.out.size));have HF1:=A0_.mk ((hb.block _ (blk_lt HF0.out)).trans HF0.out);clear hb HC1)|(go_at_call 51;refine (HC2.out _ (GV_below HG.out HB1.out) HZ.out.2.1).mono ?_;rintro e w2 ⟨rfl,hb⟩;have HB2:=A0_.mk (HB1.out.trans (hb.mono HB1.out.size));have HF2:=A0_.mk ((hb.block _ (blk_lt HF1.out)).trans HF1.out);clear hb HC2)|(go_at_call 52;refine (numbers_calls rest w2 (GV_below HG.out HB2.out) HZ.out.2.2 ns ok HN.out).mono ?_;rintro e w3 ⟨v,rfl,hr,hb⟩;obtain ⟨A,cp,rfl⟩:=Kd.R_slice hr;have HB3:=A0_.mk (HB2.out.trans (hb.mono HB2.out.size));have hf3:=(hb.block _ (blk_lt HF2.out)).trans HF2.out;have HF3:=A0_.mk hf3;have HR3:=A0_.mk (Kd.R_lower hr HB2.out.size);have y0:=bC_ hf3 0;have y1:=bC_ hf3 1;have z0:=bF_ hf3 0;have z1:=bF_ hf3 1;clear hb hr hf3))
  exact head_ret rfl rfl rfl rfl (blk2 HF3.out _ _) (Kd.R_nil _ _ _ _ _) ((HB3.out.setCell (p:=⟨w.heap.size,0,none⟩) (Nat.le_refl _) _).setCell (p:=⟨w.heap.size,1,none⟩) (Nat.le_refl _) _)
 |true =>
  rw [if_neg (by decide)] at hfin
  cases ok with
  |false =>
   rw [if_pos rfl] at hfin
   subst hfin
   go_enter Tryz.func18,Tryz.ntmps18
   go_wp2_with (first|(go_at_call 51;refine (HC1.out _ (GV_below HG.out HB0.out) HZ.out.1).mono ?_;rintro e w1 ⟨rfl,hb⟩;have HB1:=A0_.mk (HB0.out.trans (hb.mono HB0.out.size));have HF1:=A0_.mk ((hb.block _ (blk_lt HF0.out)).trans HF0.out);clear hb HC1)|(go_at_call 51;refine (HC2.out _ (GV_below HG.out HB1.out) HZ.out.2.1).mono ?_;rintro e w2 ⟨rfl,hb⟩;have HB2:=A0_.mk (HB1.out.trans (hb.mono HB1.out.size));have HF2:=A0_.mk ((hb.block _ (blk_lt HF1.out)).trans HF1.out);clear hb HC2)|(go_at_call 52;refine (numbers_calls rest w2 (GV_below HG.out HB2.out) HZ.out.2.2 ns false HN.out).mono ?_;rintro e w3 ⟨v,rfl,hr,hb⟩;obtain ⟨A,cp,rfl⟩:=Kd.R_slice hr;have HB3:=A0_.mk (HB2.out.trans (hb.mono HB2.out.size));have hf3:=(hb.block _ (blk_lt HF2.out)).trans HF2.out;have HF3:=A0_.mk hf3;have HR3:=A0_.mk (Kd.R_lower hr HB2.out.size);have y0:=bC_ hf3 0;have y1:=bC_ hf3 1;have z0:=bF_ hf3 0;have z1:=bF_ hf3 1;clear hb hr hf3))
   exact head_ret rfl rfl rfl rfl (blk2 HF3.out _ _) (Kd.R_nil _ _ _ _ _) ((HB3.out.setCell (p:=⟨w.heap.size,0,none⟩) (Nat.le_refl _) _).setCell (p:=⟨w.heap.size,1,none⟩) (Nat.le_refl _) _)
  |true =>
   rw [if_neg (by decide)] at hfin
   by_cases ca : word = aagB
   ·subst ca
    rw [if_neg (by intro h;exact h.1 rfl)] at hfin
    unfold aagB at HC2 hfin
    by_cases c5 : ns.length < 5
    ·rw [if_pos c5] at hfin
     have c5b : decide ((ns.length : Int) < 5) = true:=decide_eq_true (by omega)
     clear c5
     subst hfin
     go_enter Tryz.func18,Tryz.ntmps18
     go_wp2_with (first|(go_at_call 51;refine (HC1.out _ (GV_below HG.out HB0.out) HZ.out.1).mono ?_;rintro e w1 ⟨rfl,hb⟩;have HB1:=A0_.mk (HB0.out.trans (hb.mono HB0.out.size));have HF1:=A0_.mk ((hb.block _ (blk_lt HF0.out)).trans HF0.out);clear hb HC1)|(go_at_call 51;refine (HC2.out _ (GV_below HG.out HB1.out) HZ.out.2.1).mono ?_;rintro e w2 ⟨rfl,hb⟩;have HB2:=A0_.mk (HB1.out.trans (hb.mono HB1.out.size));have HF2:=A0_.mk ((hb.block _ (blk_lt HF1.out)).trans HF1.out);clear hb HC2)|(go_at_call 52;refine (numbers_calls rest w2 (GV_below HG.out HB2.out) HZ.out.2.2 ns true HN.out).mono ?_;rintro e w3 ⟨v,rfl,hr,hb⟩;obtain ⟨A,cp,rfl⟩:=Kd.R_slice hr;have HB3:=A0_.mk (HB2.out.trans (hb.mono HB2.out.size));have hf3:=(hb.block _ (blk_lt HF2.out)).trans HF2.out;have HF3:=A0_.mk hf3;have HR3:=A0_.mk (Kd.R_lower hr HB2.out.size);have y0:=bC_ hf3 0;have y1:=bC_ hf3 1;have z0:=bF_ hf3 0;have z1:=bF_ hf3 1;clear hb hr hf3))
     exact head_ret rfl rfl rfl rfl (blk2 HF3.out _ _) (Kd.R_nil _ _ _ _ _) ((HB3.out.setCell (p:=⟨w.heap.size,0,none⟩) (Nat.le_refl _) _).setCell (p:=⟨w.heap.size,1,none⟩) (Nat.le_refl _) _)
    ·rw [if_neg c5] at hfin
     have c5b : decide ((ns.length : Int) < 5) = false:=decide_eq_false (by omega)
     by_cases c9 : 9 < ns.length
     ·rw [if_pos c9] at hfin
      have c9b : decide ((9 : Int) < (ns.length : Int)) = true:=decide_eq_true (by omega)
      clear c5 c9
      subst hfin
      go_enter Tryz.func18,Tryz.ntmps18
      go_wp2_with (first|(go_at_call 51;refine (HC1.out _ (GV_below HG.out HB0.out) HZ.out.1).mono ?_;rintro e w1 ⟨rfl,hb⟩;have HB1:=A0_.mk (HB0.out.trans (hb.mono HB0.out.size));have HF1:=A0_.mk ((hb.block _ (blk_lt HF0.out)).trans HF0.out);clear hb HC1)|(go_at_call 51;refine (HC2.out _ (GV_below HG.out HB1.out) HZ.out.2.1).mono ?_;rintro e w2 ⟨rfl,hb⟩;have HB2:=A0_.mk (HB1.out.trans (hb.mono HB1.out.size));have HF2:=A0_.mk ((hb.block _ (blk_lt HF1.out)).trans HF1.out);clear hb HC2)|(go_at_call 52;refine (numbers_calls rest w2 (GV_below HG.out HB2.out) HZ.out.2.2 ns true HN.out).mono ?_;rintro e w3 ⟨v,rfl,hr,hb⟩;obtain ⟨A,cp,rfl⟩:=Kd.R_slice hr;have HB3:=A0_.mk (HB2.out.trans (hb.mono HB2.out.size));have hf3:=(hb.block _ (blk_lt HF2.out)).trans HF2.out;have HF3:=A0_.mk hf3;have HR3:=A0_.mk (Kd.R_lower hr HB2.out.size);have y0:=bC_ hf3 0;have y1:=bC_ hf3 1;have z0:=bF_ hf3 0;have z1:=bF_ hf3 1;clear hb hr hf3))
      exact head_ret rfl rfl rfl rfl (blk2 HF3.out _ _) (Kd.R_nil _ _ _ _ _) ((HB3.out.setCell (p:=⟨w.heap.size,0,none⟩) (Nat.le_refl _) _).setCell (p:=⟨w.heap.size,1,none⟩) (Nat.le_refl _) _)
     ·rw [if_neg c9] at hfin
      have c9b : decide ((9 : Int) < (ns.length : Int)) = false:=decide_eq_false (by omega)
      have h9 : ns.length ≤ 9:=by omega
      obtain ⟨k0,k1,k2,k3,k4,k5,k6,k7,k8,hk⟩:=list9 (nine_len h9)
      have hkr:=nine_range HRG.out
      rw [hk] at hfin hkr
      have r0:=hkr k0 (by simp)
      have r1:=hkr k1 (by simp)
      have r2:=hkr k2 (by simp)
      have r4:=hkr k4 (by simp)
      have HK:=A0_.mk hk
      have H9:=A0_.mk h9
      have HKL:=A0_.mk hkr
      have hmk:=make9
      clear c5 c9 hk h9 hkr
      go_enter Tryz.func18,Tryz.ntmps18
      go_upto_region 9 with (first|(go_at_call 51;refine (HC1.out _ (GV_below HG.out HB0.out) HZ.out.1).mono ?_;rintro e w1 ⟨rfl,hb⟩;have HB1:=A0_.mk (HB0.out.trans (hb.mono HB0.out.size));have HF1:=A0_.mk ((hb.block _ (blk_lt HF0.out)).trans HF0.out);clear hb HC1)|(go_at_call 51;refine (HC2.out _ (GV_below HG.out HB1.out) HZ.out.2.1).mono ?_;rintro e w2 ⟨rfl,hb⟩;have HB2:=A0_.mk (HB1.out.trans (hb.mono HB1.out.size));have HF2:=A0_.mk ((hb.block _ (blk_lt HF1.out)).trans HF1.out);clear hb HC2)|(go_at_call 52;refine (numbers_calls rest w2 (GV_below HG.out HB2.out) HZ.out.2.2 ns true HN.out).mono ?_;rintro e w3 ⟨v,rfl,hr,hb⟩;obtain ⟨A,cp,rfl⟩:=Kd.R_slice hr;have HB3:=A0_.mk (HB2.out.trans (hb.mono HB2.out.size));have hf3:=(hb.block _ (blk_lt HF2.out)).trans HF2.out;have HF3:=A0_.mk hf3;have HR3:=A0_.mk (Kd.R_lower hr HB2.out.size);have y0:=bC_ hf3 0;have y1:=bC_ hf3 1;have z0:=bF_ hf3 0;have z1:=bF_ hf3 1;clear hb hr hf3))
      have HV:=A0_.mk (own9 w3 w.heap.size HB3.out.size)
      have HN3:=A0_.mk (Kd.C_below (Kd.R_reads' HR3.out).2.2 (eA_ (Below.refl w3.heap.size w3) (.cells #[.int .i64 0,.int .i64 0,.int .i64 0,.int .i64 0,.int .i64 0,.int .i64 0,.int .i64 0,.int .i64 0,.int .i64 0] 3)))
      have HB4:=A0_.mk (eA_ HB3.out (.cells #[.int .i64 0,.int .i64 0,.int .i64 0,.int .i64 0,.int .i64 0,.int .i64 0,.int .i64 0,.int .i64 0,.int .i64 0] 3))
      have HF4:=A0_.mk (bA_ HF3.out (.cells #[.int .i64 0,.int .i64 0,.int .i64 0,.int .i64 0,.int .i64 0,.int .i64 0,.int .i64 0,.int .i64 0,.int .i64 0] 3))
      have HGL:=A0_.mk (blk_lt HF3.out)
      clear y0 y1 z0 z1 hmk
      generalize w3.heap.size = g at HV HGL ⊢
      generalize w3.alloc (.cells #[.int .i64 0,.int .i64 0,.int .i64 0,.int .i64 0,.int .i64 0,.int .i64 0,.int .i64 0,.int .i64 0,.int .i64 0] 3) = w4 at HV HN3 HB4 HF4 ⊢
      go_upto_region 10 with (first|((with_reducible refine gate_builtin (b:=.copy) (xs:=#[.tmp 62,.tmp 63]) rfl ?_);refine Kd.R_copy (0 : Int) (w0:=w) w.heap.size rfl (.tmp 62) (.tmp 63) 22 22 3 rfl Tryz.underlying22 info3s (.slice (some ⟨g,0,none⟩) 9 9) [0,0,0,0,0,0,0,0,0] ns A ns.length cp (fun _ => True) rfl rfl HV.out HN3.out HB4.out HB4.out.size ?_;intro w5 hr5 hb5 hg5;rw [nine_eq H9.out,HK.out] at hr5;have HR5:=A0_.mk hr5;have HB5:=A0_.mk hb5;have HF5:=A0_.mk (blk_grown HF4.out hg5 (fun e => absurd (Option.some.inj e : w.heap.size = g) (by have:=HGL.out;omega)));clear hr5 hb5 hg5))
      have hc:=row9 HR5.out
      have y0 : w5.cell? ⟨g,0,none⟩ = some (.int .i64 k0):=hc 0 (by decide)
      have y1 : w5.cell? ⟨g,1,none⟩ = some (.int .i64 k1):=hc 1 (by decide)
      have y2 : w5.cell? ⟨g,2,none⟩ = some (.int .i64 k2):=hc 2 (by decide)
      have y4 : w5.cell? ⟨g,4,none⟩ = some (.int .i64 k4):=hc 4 (by decide)
      have z0:=bC_ HF5.out 0
      have z1:=bC_ HF5.out 1
      have q0:=bF_ HF5.out 0
      have q1:=bF_ HF5.out 1
      have HC:=A0_.mk hc
      clear hc
      have w12 : IntKind.i64.wrap (k1 + k2) = k1 + k2:=by rw [IntKind.wrap_i64];omega
      have w124 : IntKind.i64.wrap (k1 + k2 + k4) = k1 + k2 + k4:=by rw [IntKind.wrap_i64];omega
      have e0 : ([k0,k1,k2,k3,k4,k5,k6,k7,k8] : List Int).getD 0 0 = k0:=rfl
      have e1 : ([k0,k1,k2,k3,k4,k5,k6,k7,k8] : List Int).getD 1 0 = k1:=rfl
      have e2 : ([k0,k1,k2,k3,k4,k5,k6,k7,k8] : List Int).getD 2 0 = k2:=rfl
      have e4 : ([k0,k1,k2,k3,k4,k5,k6,k7,k8] : List Int).getD 4 0 = k4:=rfl
      rw [e0,e1,e2,e4] at hfin
      by_cases p1 : 16384 < k0
      ·rw [if_pos p1] at hfin
       have p1b : decide ((16384 : Int) < k0) = true:=decide_eq_true p1
       subst hfin
       clear p1 e0 e1 e2 e4
       refine wp_normal' ?_
       refine start_ (n:=21) (S:=fun w' => w'.cell? ⟨g,0,none⟩ = some (.int .i64 k0) ∧ w'.cell? ⟨g,1,none⟩ = some (.int .i64 k1) ∧ w'.cell? ⟨g,2,none⟩ = some (.int .i64 k2) ∧ w'.cell? ⟨g,4,none⟩ = some (.int .i64 k4)) (ds:=[]) (Array.replicate 21 false) (by kernel_rfl) rfl rfl ⟨y0,y1,y2,y4⟩ (fun hHeld => ?_)
       refine pure_ (i:=0) (N:=some 65) (v:=?_) (a':=?_) (zA_ 21 1) rfl rfl (by kernel_rfl) (fun _ _ _ h => by cases h.1) (Or.inl ⟨by rfl,?_⟩) ?_ ?_
       rotate_left
       ·intro w'
        go_simp
        with_reducible rfl
       rotate_left
       ·simp only [Act.put,sA_,sB_,sC_]
        rfl
       refine pure_ (i:=1) (N:=some 66) (v:=?_) (a':=?_) (zA_ 21 3) rfl rfl (by kernel_rfl) (fun _ _ _ h => by cases h.1) (Or.inl ⟨by rfl,?_⟩) ?_ ?_
       rotate_left
       ·intro w'
        go_simp
        with_reducible rfl
       rotate_left
       ·simp only [Act.put,sA_,sB_,sC_]
        rfl
       refine take_ (i:=2) (N:=some 67) (v:=?_) (a':=?_) (zA_ 21 7) rfl rfl (by kernel_rfl) (fun _ _ _ h => by cases h.1) (Or.inl ⟨by rfl,?_⟩) hHeld ?_ ?_
       rotate_left
       ·intro w' s0
        obtain ⟨s0_,s1_,s2_,s3_⟩:=s0
        go_simp
        with_reducible rfl
       rotate_left
       ·simp only [Act.put,sA_,sB_,sC_]
        rfl
       refine pure_ (i:=3) (N:=some 68) (v:=?_) (a':=?_) (zA_ 21 15) rfl rfl (by kernel_rfl) (fun _ _ _ h => by cases h.1) (Or.inl ⟨by rfl,?_⟩) ?_ ?_
       rotate_left
       ·intro w'
        go_simp
        with_reducible rfl
       rotate_left
       ·simp only [Act.put,sA_,sB_,sC_]
        rfl
       refine pure_ (i:=4) (N:=some 69) (v:=?_) (a':=?_) (zA_ 21 31) rfl rfl (by kernel_rfl) (fun _ _ _ h => by cases h.1) (Or.inl ⟨by rfl,?_⟩) ?_ ?_
       rotate_left
       ·intro w'
        go_simp
        with_reducible rfl
       rotate_left
       ·simp only [Act.put,sA_,sB_,sC_]
        rfl
       refine pure_ (i:=5) (N:=some 70) (v:=undef) (a':=?_) (zA_ 21 63) rfl rfl (by kernel_rfl) (fun _ _ _ h => by cases h.1) (Or.inr ⟨by rfl,rfl⟩) ?_ ?_
       rotate_left
       ·simp only [Act.put,sA_,sB_,sC_]
        rfl
       refine pure_ (i:=6) (N:=some 71) (v:=undef) (a':=?_) (zA_ 21 127) rfl rfl (by kernel_rfl) (fun _ _ _ h => by cases h.1) (Or.inr ⟨by rfl,rfl⟩) ?_ ?_
       rotate_left
       ·simp only [Act.put,sA_,sB_,sC_]
        rfl
       refine pure_ (i:=7) (N:=some 72) (v:=undef) (a':=?_) (zA_ 21 255) rfl rfl (by kernel_rfl) (fun _ _ _ h => by cases h.1) (Or.inr ⟨by rfl,rfl⟩) ?_ ?_
       rotate_left
       ·simp only [Act.put,sA_,sB_,sC_]
        rfl
       refine pure_ (i:=8) (N:=some 73) (v:=undef) (a':=?_) (zA_ 21 511) rfl rfl (by kernel_rfl) (fun _ _ _ h => by cases h.1) (Or.inr ⟨by rfl,rfl⟩) ?_ ?_
       rotate_left
       ·simp only [Act.put,sA_,sB_,sC_]
        rfl
       refine pure_ (i:=9) (N:=some 74) (v:=undef) (a':=?_) (zA_ 21 1023) rfl rfl (by kernel_rfl) (fun _ _ _ h => by cases h.1) (Or.inr ⟨by rfl,rfl⟩) ?_ ?_
       rotate_left
       ·simp only [Act.put,sA_,sB_,sC_]
        rfl
       refine pure_ (i:=10) (N:=some 75) (v:=undef) (a':=?_) (zA_ 21 2047) rfl rfl (by kernel_rfl) (fun _ _ _ h => by cases h.1) (Or.inr ⟨by rfl,rfl⟩) ?_ ?_
       rotate_left
       ·simp only [Act.put,sA_,sB_,sC_]
        rfl
       refine pure_ (i:=11) (N:=some 76) (v:=undef) (a':=?_) (zA_ 21 4095) rfl rfl (by kernel_rfl) (fun _ _ _ h => by cases h.1) (Or.inr ⟨by rfl,rfl⟩) ?_ ?_
       rotate_left
       ·simp only [Act.put,sA_,sB_,sC_]
        rfl
       refine pure_ (i:=12) (N:=some 77) (v:=undef) (a':=?_) (zA_ 21 8191) rfl rfl (by kernel_rfl) (fun _ _ _ h => by cases h.1) (Or.inr ⟨by rfl,rfl⟩) ?_ ?_
       rotate_left
       ·simp only [Act.put,sA_,sB_,sC_]
        rfl
       refine pure_ (i:=13) (N:=some 78) (v:=undef) (a':=?_) (zA_ 21 16383) rfl rfl (by kernel_rfl) (fun _ _ _ h => by cases h.1) (Or.inr ⟨by rfl,rfl⟩) ?_ ?_
       rotate_left
       ·simp only [Act.put,sA_,sB_,sC_]
        rfl
       refine pure_ (i:=14) (N:=some 79) (v:=undef) (a':=?_) (zA_ 21 32767) rfl rfl (by kernel_rfl) (fun _ _ _ h => by cases h.1) (Or.inr ⟨by rfl,rfl⟩) ?_ ?_
       rotate_left
       ·simp only [Act.put,sA_,sB_,sC_]
        rfl
       refine pure_ (i:=15) (N:=some 80) (v:=undef) (a':=?_) (zA_ 21 65535) rfl rfl (by kernel_rfl) (fun _ _ _ h => by cases h.1) (Or.inr ⟨by rfl,rfl⟩) ?_ ?_
       rotate_left
       ·simp only [Act.put,sA_,sB_,sC_]
        rfl
       refine pure_ (i:=16) (N:=some 81) (v:=undef) (a':=?_) (zA_ 21 131071) rfl rfl (by kernel_rfl) (fun _ _ _ h => by cases h.1) (Or.inr ⟨by rfl,rfl⟩) ?_ ?_
       rotate_left
       ·simp only [Act.put,sA_,sB_,sC_]
        rfl
       refine pure_ (i:=17) (N:=some 82) (v:=undef) (a':=?_) (zA_ 21 262143) rfl rfl (by kernel_rfl) (fun _ _ _ h => by cases h.1) (Or.inr ⟨by rfl,rfl⟩) ?_ ?_
       rotate_left
       ·simp only [Act.put,sA_,sB_,sC_]
        rfl
       refine pure_ (i:=18) (N:=some 83) (v:=undef) (a':=?_) (zA_ 21 524287) rfl rfl (by kernel_rfl) (fun _ _ _ h => by cases h.1) (Or.inr ⟨by rfl,rfl⟩) ?_ ?_
       rotate_left
       ·simp only [Act.put,sA_,sB_,sC_]
        rfl
       refine pure_ (i:=19) (N:=some 84) (v:=undef) (a':=?_) (zA_ 21 1048575) rfl rfl (by kernel_rfl) (fun _ _ _ h => by cases h.1) (Or.inr ⟨by rfl,rfl⟩) ?_ ?_
       rotate_left
       ·simp only [Act.put,sA_,sB_,sC_]
        rfl
       refine pure_ (i:=20) (N:=some 85) (v:=?_) (a':=?_) (zA_ 21 2097151) rfl rfl (by kernel_rfl) (fun _ _ _ h => by cases h.1) (Or.inl ⟨by rfl,?_⟩) ?_ ?_
       rotate_left
       ·intro w'
        go_simp
        with_reducible rfl
       rotate_left
       ·simp only [Act.put,sA_,sB_,sC_]
        rfl
       refine done_ (by kernel_rfl) ?_
       refine ⟨rfl,?_⟩
       rename_i hKK
       refine hKK _ _ ?_
       go_wp2
       exact head_ret rfl rfl rfl rfl (blk2 (w:=w5.drew) HF5.out _ _) (Kd.R_nil _ _ _ _ _) (((below_drew HB5.out).setCell (p:=⟨w.heap.size,0,none⟩) (Nat.le_refl _) _).setCell (p:=⟨w.heap.size,1,none⟩) (Nat.le_refl _) _)
      ·rw [if_neg p1] at hfin
       have p1b : decide ((16384 : Int) < k0) = false:=decide_eq_false p1
       by_cases p2 : k0 < k1 + k2 + k4
       ·rw [if_pos p2] at hfin
        have p2b : decide (k0 < k1 + k2 + k4) = true:=decide_eq_true p2
        subst hfin
        clear p1 p2 e0 e1 e2 e4
        refine wp_normal' ?_
        refine start_ (n:=21) (S:=fun w' => w'.cell? ⟨g,0,none⟩ = some (.int .i64 k0) ∧ w'.cell? ⟨g,1,none⟩ = some (.int .i64 k1) ∧ w'.cell? ⟨g,2,none⟩ = some (.int .i64 k2) ∧ w'.cell? ⟨g,4,none⟩ = some (.int .i64 k4)) (ds:=[]) (Array.replicate 21 false) (by kernel_rfl) rfl rfl ⟨y0,y1,y2,y4⟩ (fun hHeld => ?_)
        refine pure_ (i:=0) (N:=some 65) (v:=?_) (a':=?_) (zA_ 21 1) rfl rfl (by kernel_rfl) (fun _ _ _ h => by cases h.1) (Or.inl ⟨by rfl,?_⟩) ?_ ?_
        rotate_left
        ·intro w'
         go_simp
         with_reducible rfl
        rotate_left
        ·simp only [Act.put,sA_,sB_,sC_]
         rfl
        refine pure_ (i:=1) (N:=some 66) (v:=?_) (a':=?_) (zA_ 21 3) rfl rfl (by kernel_rfl) (fun _ _ _ h => by cases h.1) (Or.inl ⟨by rfl,?_⟩) ?_ ?_
        rotate_left
        ·intro w'
         go_simp
         with_reducible rfl
        rotate_left
        ·simp only [Act.put,sA_,sB_,sC_]
         rfl
        refine take_ (i:=2) (N:=some 67) (v:=?_) (a':=?_) (zA_ 21 7) rfl rfl (by kernel_rfl) (fun _ _ _ h => by cases h.1) (Or.inl ⟨by rfl,?_⟩) hHeld ?_ ?_
        rotate_left
        ·intro w' s0
         obtain ⟨s0_,s1_,s2_,s3_⟩:=s0
         go_simp
         with_reducible rfl
        rotate_left
        ·simp only [Act.put,sA_,sB_,sC_]
         rfl
        refine pure_ (i:=3) (N:=some 68) (v:=?_) (a':=?_) (zA_ 21 15) rfl rfl (by kernel_rfl) (fun _ _ _ h => by cases h.1) (Or.inl ⟨by rfl,?_⟩) ?_ ?_
        rotate_left
        ·intro w'
         go_simp
         with_reducible rfl
        rotate_left
        ·simp only [Act.put,sA_,sB_,sC_]
         rfl
        refine pure_ (i:=4) (N:=some 69) (v:=?_) (a':=?_) (zA_ 21 31) rfl rfl (by kernel_rfl) (fun _ _ _ h => by cases h.1) (Or.inl ⟨by rfl,?_⟩) ?_ ?_
        rotate_left
        ·intro w'
         go_simp
         with_reducible rfl
        rotate_left
        ·simp only [Act.put,sA_,sB_,sC_]
         rfl
        refine pure_ (i:=5) (N:=some 70) (v:=?_) (a':=?_) (zA_ 21 63) rfl rfl (by kernel_rfl) (fun _ _ _ h => by cases h.1) (Or.inl ⟨by rfl,?_⟩) ?_ ?_
        rotate_left
        ·intro w'
         go_simp
         with_reducible rfl
        rotate_left
        ·simp only [Act.put,sA_,sB_,sC_]
         rfl
        refine pure_ (i:=6) (N:=some 71) (v:=?_) (a':=?_) (zA_ 21 127) rfl rfl (by kernel_rfl) (fun _ _ _ h => by cases h.1) (Or.inl ⟨by rfl,?_⟩) ?_ ?_
        rotate_left
        ·intro w'
         go_simp
         with_reducible rfl
        rotate_left
        ·simp only [Act.put,sA_,sB_,sC_]
         rfl
        refine take_ (i:=7) (N:=some 72) (v:=?_) (a':=?_) (zA_ 21 255) rfl rfl (by kernel_rfl) (fun _ _ _ h => by cases h.1) (Or.inl ⟨by rfl,?_⟩) hHeld ?_ ?_
        rotate_left
        ·intro w' s0
         obtain ⟨s0_,s1_,s2_,s3_⟩:=s0
         go_simp
         with_reducible rfl
        rotate_left
        ·simp only [Act.put,sA_,sB_,sC_]
         rfl
        refine pure_ (i:=8) (N:=some 73) (v:=?_) (a':=?_) (zA_ 21 511) rfl rfl (by kernel_rfl) (fun _ _ _ h => by cases h.1) (Or.inl ⟨by rfl,?_⟩) ?_ ?_
        rotate_left
        ·intro w'
         go_simp
         with_reducible rfl
        rotate_left
        ·simp only [Act.put,sA_,sB_,sC_]
         rfl
        refine pure_ (i:=9) (N:=some 74) (v:=?_) (a':=?_) (zA_ 21 1023) rfl rfl (by kernel_rfl) (fun _ _ _ h => by cases h.1) (Or.inl ⟨by rfl,?_⟩) ?_ ?_
        rotate_left
        ·intro w'
         go_simp
         with_reducible rfl
        rotate_left
        ·simp only [Act.put,sA_,sB_,sC_]
         rfl
        refine take_ (i:=10) (N:=some 75) (v:=?_) (a':=?_) (zA_ 21 2047) rfl rfl (by kernel_rfl) (fun _ _ _ h => by cases h.1) (Or.inl ⟨by rfl,?_⟩) hHeld ?_ ?_
        rotate_left
        ·intro w' s0
         obtain ⟨s0_,s1_,s2_,s3_⟩:=s0
         go_simp
         with_reducible rfl
        rotate_left
        ·simp only [Act.put,sA_,sB_,sC_]
         rfl
        refine pure_ (i:=11) (N:=some 76) (v:=?_) (a':=?_) (zA_ 21 4095) rfl rfl (by kernel_rfl) (fun _ _ _ h => by cases h.1) (Or.inl ⟨by rfl,?_⟩) ?_ ?_
        rotate_left
        ·intro w'
         go_simp
         with_reducible rfl
        rotate_left
        ·simp only [Act.put,sA_,sB_,sC_]
         rfl
        refine pure_ (i:=12) (N:=some 77) (v:=?_) (a':=?_) (zA_ 21 8191) rfl rfl (by kernel_rfl) (fun _ _ _ h => by cases h.1) (Or.inl ⟨by rfl,?_⟩) ?_ ?_
        rotate_left
        ·intro w'
         go_simp
         with_reducible rfl
        rotate_left
        ·simp only [Act.put,sA_,sB_,sC_]
         rfl
        refine pure_ (i:=13) (N:=some 78) (v:=?_) (a':=?_) (zA_ 21 16383) rfl rfl (by kernel_rfl) (fun _ _ _ h => by cases h.1) (Or.inl ⟨by rfl,?_⟩) ?_ ?_
        rotate_left
        ·intro w'
         go_simp
         with_reducible rfl
        rotate_left
        ·simp only [Act.put,sA_,sB_,sC_]
         rfl
        refine take_ (i:=14) (N:=some 79) (v:=?_) (a':=?_) (zA_ 21 32767) rfl rfl (by kernel_rfl) (fun _ _ _ h => by cases h.1) (Or.inl ⟨by rfl,?_⟩) hHeld ?_ ?_
        rotate_left
        ·intro w' s0
         obtain ⟨s0_,s1_,s2_,s3_⟩:=s0
         go_simp
         with_reducible rfl
        rotate_left
        ·simp only [Act.put,sA_,sB_,sC_]
         rfl
        refine pure_ (i:=15) (N:=some 80) (v:=?_) (a':=?_) (zA_ 21 65535) rfl rfl (by kernel_rfl) (fun _ _ _ h => by cases h.1) (Or.inl ⟨by rfl,?_⟩) ?_ ?_
        rotate_left
        ·intro w'
         go_simp
         with_reducible rfl
        rotate_left
        ·simp only [Act.put,sA_,sB_,sC_]
         rfl
        refine pure_ (i:=16) (N:=some 81) (v:=?_) (a':=?_) (zA_ 21 131071) rfl rfl (by kernel_rfl) (fun _ _ _ h => by cases h.1) (Or.inl ⟨by rfl,?_⟩) ?_ ?_
        rotate_left
        ·intro w'
         go_simp
         with_reducible rfl
        rotate_left
        ·simp only [Act.put,sA_,sB_,sC_]
         rfl
        refine pure_ (i:=17) (N:=some 82) (v:=?_) (a':=?_) (zA_ 21 262143) rfl rfl (by kernel_rfl) (fun _ _ _ h => by cases h.1) (Or.inl ⟨by rfl,?_⟩) ?_ ?_
        rotate_left
        ·intro w'
         go_simp
         with_reducible rfl
        rotate_left
        ·simp only [Act.put,sA_,sB_,sC_]
         rfl
        refine take_ (i:=18) (N:=some 83) (v:=?_) (a':=?_) (zA_ 21 524287) rfl rfl (by kernel_rfl) (fun _ _ _ h => by cases h.1) (Or.inl ⟨by rfl,?_⟩) hHeld ?_ ?_
        rotate_left
        ·intro w' s0
         obtain ⟨s0_,s1_,s2_,s3_⟩:=s0
         go_simp
         with_reducible rfl
        rotate_left
        ·simp only [Act.put,sA_,sB_,sC_]
         rfl
        refine pure_ (i:=19) (N:=some 84) (v:=?_) (a':=?_) (zA_ 21 1048575) rfl rfl (by kernel_rfl) (fun _ _ _ h => by cases h.1) (Or.inl ⟨by rfl,?_⟩) ?_ ?_
        rotate_left
        ·intro w'
         go_simp
         with_reducible rfl
        rotate_left
        ·simp only [Act.put,sA_,sB_,sC_]
         rfl
        refine pure_ (i:=20) (N:=some 85) (v:=?_) (a':=?_) (zA_ 21 2097151) rfl rfl (by kernel_rfl) (fun _ _ _ h => by cases h.1) (Or.inl ⟨by rfl,?_⟩) ?_ ?_
        rotate_left
        ·intro w'
         go_simp
         with_reducible rfl
        rotate_left
        ·simp only [Act.put,sA_,sB_,sC_]
         rfl
        refine done_ (by kernel_rfl) ?_
        refine ⟨rfl,?_⟩
        rename_i hKK
        refine hKK _ _ ?_
        go_wp2
        exact head_ret rfl rfl rfl rfl (blk2 (w:=w5.drew) HF5.out _ _) (Kd.R_nil _ _ _ _ _) (((below_drew HB5.out).setCell (p:=⟨w.heap.size,0,none⟩) (Nat.le_refl _) _).setCell (p:=⟨w.heap.size,1,none⟩) (Nat.le_refl _) _)
       ·rw [if_neg p2] at hfin
        have p2b : decide (k0 < k1 + k2 + k4) = false:=decide_eq_false p2
        clear p1 p2 e0 e1 e2 e4
        refine wp_normal' ?_
        refine start_ (n:=21) (S:=fun w' => w'.cell? ⟨g,0,none⟩ = some (.int .i64 k0) ∧ w'.cell? ⟨g,1,none⟩ = some (.int .i64 k1) ∧ w'.cell? ⟨g,2,none⟩ = some (.int .i64 k2) ∧ w'.cell? ⟨g,4,none⟩ = some (.int .i64 k4)) (ds:=[]) (Array.replicate 21 false) (by kernel_rfl) rfl rfl ⟨y0,y1,y2,y4⟩ (fun hHeld => ?_)
        refine pure_ (i:=0) (N:=some 65) (v:=?_) (a':=?_) (zA_ 21 1) rfl rfl (by kernel_rfl) (fun _ _ _ h => by cases h.1) (Or.inl ⟨by rfl,?_⟩) ?_ ?_
        rotate_left
        ·intro w'
         go_simp
         with_reducible rfl
        rotate_left
        ·simp only [Act.put,sA_,sB_,sC_]
         rfl
        refine pure_ (i:=1) (N:=some 66) (v:=?_) (a':=?_) (zA_ 21 3) rfl rfl (by kernel_rfl) (fun _ _ _ h => by cases h.1) (Or.inl ⟨by rfl,?_⟩) ?_ ?_
        rotate_left
        ·intro w'
         go_simp
         with_reducible rfl
        rotate_left
        ·simp only [Act.put,sA_,sB_,sC_]
         rfl
        refine take_ (i:=2) (N:=some 67) (v:=?_) (a':=?_) (zA_ 21 7) rfl rfl (by kernel_rfl) (fun _ _ _ h => by cases h.1) (Or.inl ⟨by rfl,?_⟩) hHeld ?_ ?_
        rotate_left
        ·intro w' s0
         obtain ⟨s0_,s1_,s2_,s3_⟩:=s0
         go_simp
         with_reducible rfl
        rotate_left
        ·simp only [Act.put,sA_,sB_,sC_]
         rfl
        refine pure_ (i:=3) (N:=some 68) (v:=?_) (a':=?_) (zA_ 21 15) rfl rfl (by kernel_rfl) (fun _ _ _ h => by cases h.1) (Or.inl ⟨by rfl,?_⟩) ?_ ?_
        rotate_left
        ·intro w'
         go_simp
         with_reducible rfl
        rotate_left
        ·simp only [Act.put,sA_,sB_,sC_]
         rfl
        refine pure_ (i:=4) (N:=some 69) (v:=?_) (a':=?_) (zA_ 21 31) rfl rfl (by kernel_rfl) (fun _ _ _ h => by cases h.1) (Or.inl ⟨by rfl,?_⟩) ?_ ?_
        rotate_left
        ·intro w'
         go_simp
         with_reducible rfl
        rotate_left
        ·simp only [Act.put,sA_,sB_,sC_]
         rfl
        refine pure_ (i:=5) (N:=some 70) (v:=?_) (a':=?_) (zA_ 21 63) rfl rfl (by kernel_rfl) (fun _ _ _ h => by cases h.1) (Or.inl ⟨by rfl,?_⟩) ?_ ?_
        rotate_left
        ·intro w'
         go_simp
         with_reducible rfl
        rotate_left
        ·simp only [Act.put,sA_,sB_,sC_]
         rfl
        refine pure_ (i:=6) (N:=some 71) (v:=?_) (a':=?_) (zA_ 21 127) rfl rfl (by kernel_rfl) (fun _ _ _ h => by cases h.1) (Or.inl ⟨by rfl,?_⟩) ?_ ?_
        rotate_left
        ·intro w'
         go_simp
         with_reducible rfl
        rotate_left
        ·simp only [Act.put,sA_,sB_,sC_]
         rfl
        refine take_ (i:=7) (N:=some 72) (v:=?_) (a':=?_) (zA_ 21 255) rfl rfl (by kernel_rfl) (fun _ _ _ h => by cases h.1) (Or.inl ⟨by rfl,?_⟩) hHeld ?_ ?_
        rotate_left
        ·intro w' s0
         obtain ⟨s0_,s1_,s2_,s3_⟩:=s0
         go_simp
         with_reducible rfl
        rotate_left
        ·simp only [Act.put,sA_,sB_,sC_]
         rfl
        refine pure_ (i:=8) (N:=some 73) (v:=?_) (a':=?_) (zA_ 21 511) rfl rfl (by kernel_rfl) (fun _ _ _ h => by cases h.1) (Or.inl ⟨by rfl,?_⟩) ?_ ?_
        rotate_left
        ·intro w'
         go_simp
         with_reducible rfl
        rotate_left
        ·simp only [Act.put,sA_,sB_,sC_]
         rfl
        refine pure_ (i:=9) (N:=some 74) (v:=?_) (a':=?_) (zA_ 21 1023) rfl rfl (by kernel_rfl) (fun _ _ _ h => by cases h.1) (Or.inl ⟨by rfl,?_⟩) ?_ ?_
        rotate_left
        ·intro w'
         go_simp
         with_reducible rfl
        rotate_left
        ·simp only [Act.put,sA_,sB_,sC_]
         rfl
        refine take_ (i:=10) (N:=some 75) (v:=?_) (a':=?_) (zA_ 21 2047) rfl rfl (by kernel_rfl) (fun _ _ _ h => by cases h.1) (Or.inl ⟨by rfl,?_⟩) hHeld ?_ ?_
        rotate_left
        ·intro w' s0
         obtain ⟨s0_,s1_,s2_,s3_⟩:=s0
         go_simp
         with_reducible rfl
        rotate_left
        ·simp only [Act.put,sA_,sB_,sC_]
         rfl
        refine pure_ (i:=11) (N:=some 76) (v:=?_) (a':=?_) (zA_ 21 4095) rfl rfl (by kernel_rfl) (fun _ _ _ h => by cases h.1) (Or.inl ⟨by rfl,?_⟩) ?_ ?_
        rotate_left
        ·intro w'
         go_simp
         with_reducible rfl
        rotate_left
        ·simp only [Act.put,sA_,sB_,sC_]
         rfl
        refine pure_ (i:=12) (N:=some 77) (v:=?_) (a':=?_) (zA_ 21 8191) rfl rfl (by kernel_rfl) (fun _ _ _ h => by cases h.1) (Or.inl ⟨by rfl,?_⟩) ?_ ?_
        rotate_left
        ·intro w'
         go_simp
         with_reducible rfl
        rotate_left
        ·simp only [Act.put,sA_,sB_,sC_]
         rfl
        refine pure_ (i:=13) (N:=some 78) (v:=?_) (a':=?_) (zA_ 21 16383) rfl rfl (by kernel_rfl) (fun _ _ _ h => by cases h.1) (Or.inl ⟨by rfl,?_⟩) ?_ ?_
        rotate_left
        ·intro w'
         go_simp
         with_reducible rfl
        rotate_left
        ·simp only [Act.put,sA_,sB_,sC_]
         rfl
        refine take_ (i:=14) (N:=some 79) (v:=?_) (a':=?_) (zA_ 21 32767) rfl rfl (by kernel_rfl) (fun _ _ _ h => by cases h.1) (Or.inl ⟨by rfl,?_⟩) hHeld ?_ ?_
        rotate_left
        ·intro w' s0
         obtain ⟨s0_,s1_,s2_,s3_⟩:=s0
         go_simp
         with_reducible rfl
        rotate_left
        ·simp only [Act.put,sA_,sB_,sC_]
         rfl
        refine pure_ (i:=15) (N:=some 80) (v:=?_) (a':=?_) (zA_ 21 65535) rfl rfl (by kernel_rfl) (fun _ _ _ h => by cases h.1) (Or.inl ⟨by rfl,?_⟩) ?_ ?_
        rotate_left
        ·intro w'
         go_simp
         with_reducible rfl
        rotate_left
        ·simp only [Act.put,sA_,sB_,sC_]
         rfl
        refine pure_ (i:=16) (N:=some 81) (v:=?_) (a':=?_) (zA_ 21 131071) rfl rfl (by kernel_rfl) (fun _ _ _ h => by cases h.1) (Or.inl ⟨by rfl,?_⟩) ?_ ?_
        rotate_left
        ·intro w'
         go_simp
         with_reducible rfl
        rotate_left
        ·simp only [Act.put,sA_,sB_,sC_]
         rfl
        refine pure_ (i:=17) (N:=some 82) (v:=?_) (a':=?_) (zA_ 21 262143) rfl rfl (by kernel_rfl) (fun _ _ _ h => by cases h.1) (Or.inl ⟨by rfl,?_⟩) ?_ ?_
        rotate_left
        ·intro w'
         go_simp
         with_reducible rfl
        rotate_left
        ·simp only [Act.put,sA_,sB_,sC_]
         rfl
        refine take_ (i:=18) (N:=some 83) (v:=?_) (a':=?_) (zA_ 21 524287) rfl rfl (by kernel_rfl) (fun _ _ _ h => by cases h.1) (Or.inl ⟨by rfl,?_⟩) hHeld ?_ ?_
        rotate_left
        ·intro w' s0
         obtain ⟨s0_,s1_,s2_,s3_⟩:=s0
         go_simp
         with_reducible rfl
        rotate_left
        ·simp only [Act.put,sA_,sB_,sC_]
         rfl
        refine pure_ (i:=19) (N:=some 84) (v:=?_) (a':=?_) (zA_ 21 1048575) rfl rfl (by kernel_rfl) (fun _ _ _ h => by cases h.1) (Or.inl ⟨by rfl,?_⟩) ?_ ?_
        rotate_left
        ·intro w'
         go_simp
         with_reducible rfl
        rotate_left
        ·simp only [Act.put,sA_,sB_,sC_]
         rfl
        refine pure_ (i:=20) (N:=some 85) (v:=?_) (a':=?_) (zA_ 21 2097151) rfl rfl (by kernel_rfl) (fun _ _ _ h => by cases h.1) (Or.inl ⟨by rfl,?_⟩) ?_ ?_
        rotate_left
        ·intro w'
         go_simp
         with_reducible rfl
        rotate_left
        ·simp only [Act.put,sA_,sB_,sC_]
         rfl
        refine done_ (by kernel_rfl) ?_
        refine ⟨rfl,?_⟩
        rename_i hKK
        refine hKK _ _ ?_
        clear hKK hHeld w12 w124
        generalize hgood : ((⟨#[97,97,103]⟩ : ByteArray),([k0,k1,k2,k3,k4,k5,k6,k7,k8] : List Int),(l.size : Int) + 1,(0 : Int)) = GOOD at hfin
        have HGOOD:=A0_.mk hgood
        have HFIN:=A0_.mk hfin
        have hwl : IntKind.i64.wrap ((l.size : Int) + 1) = (l.size : Int) + 1:=by have:=HZ.out;rw [IntKind.wrap_i64];omega
        clear hgood hfin y0 y1 y2 y4 r0 r1 r2 r4
        go_wp2
        (try simp only [Act.put,sA_,sB_,sC_])
        go_loopg [2,3,90] 9 (fun kq v2 v3 v90 w' => ∃ n : Nat,v2 = .string ⟨#[97,97,103]⟩ ∧ v3 = .slice (some ⟨g,0,none⟩) 9 9 ∧ v90 = .int .i64 n ∧ A0_ (n + kq = 9) ∧ A0_ (n ≤ 8) ∧ A0_ ((if (List.drop (n + 1) ([k0,k1,k2,k3,k4,k5,k6,k7,k8] : List Int)).any (fun x => decide (16384 < x)) = true then headErr 41 else GOOD) = fin) ∧ w' = w5.drew)
        case atStart => exact ⟨0,rfl,rfl,rfl,⟨rfl⟩,⟨by omega⟩,HFIN,rfl⟩
        case round =>
         clear HFIN
         obtain ⟨n,rfl,rfl,rfl,HKQ,HNL,HFIN,rfl⟩:=hrel
         by_cases cn : n < 8
         ·obtain ⟨g1,rfl⟩ : ∃ g1,gk = g1 + 1:=by
           cases gk with
           |zero => have:=HKQ.out;omega
           |succ g1 => exact ⟨g1,rfl⟩
          have cnb : decide ((n : Int) < 8) = true:=decide_eq_true (by omega)
          have p0 : (0 ≤ (n : Int)) = True:=eq_true (by omega)
          have p1 : ((n : Int) < 8) = True:=eq_true (by omega)
          have hw1 : IntKind.i64.wrap ((n : Int) + 1) = ((n + 1 : Nat) : Int):=by rw [IntKind.wrap_i64];omega
          have hlt : n + 1 < ([k0,k1,k2,k3,k4,k5,k6,k7,k8] : List Int).length:=by show n + 1 < 9;omega
          have hdr : List.drop (n + 1) ([k0,k1,k2,k3,k4,k5,k6,k7,k8] : List Int) = ([k0,k1,k2,k3,k4,k5,k6,k7,k8] : List Int).getD (n + 1) 0 :: List.drop (n + 1 + 1) ([k0,k1,k2,k3,k4,k5,k6,k7,k8] : List Int):=by
           rw [List.drop_eq_getElem_cons hlt]
           simp [List.getD_eq_getElem?_getD,List.getElem?_eq_getElem hlt]
          have hf:=HFIN.out
          rw [hdr,List.any_cons] at hf
          have hc1 : w5.cell? ⟨g,1 + n,none⟩ = some (.int .i64 (([k0,k1,k2,k3,k4,k5,k6,k7,k8] : List Int).getD (n + 1) 0)):=by rw [Nat.add_comm];exact HC.out (n + 1) (by omega)
          generalize ([k0,k1,k2,k3,k4,k5,k6,k7,k8] : List Int).getD (n + 1) 0 = kn at hc1 hf
          by_cases ck : 16384 < kn
          ·have ckb : decide ((16384 : Int) < kn) = true:=decide_eq_true ck
           rw [ckb,Bool.true_or,if_pos rfl] at hf
           subst hf
           clear ck hdr hlt cn HFIN
           go_wp2
           exact head_ret rfl rfl rfl rfl (blk2 (w:=w5.drew) HF5.out _ _) (Kd.R_nil _ _ _ _ _) (((below_drew HB5.out).setCell (p:=⟨w.heap.size,0,none⟩) (Nat.le_refl _) _).setCell (p:=⟨w.heap.size,1,none⟩) (Nat.le_refl _) _)
          ·have ckb : decide ((16384 : Int) < kn) = false:=decide_eq_false ck
           rw [ckb,Bool.false_or] at hf
           have HF2:=A0_.mk hf
           have HCN:=A0_.mk cn
           clear hf ck hdr hlt cn HFIN
           go_wp2
           go_roundg g1
           case measure => omega
           case rel => exact ⟨n + 1,rfl,rfl,rfl,⟨by have:=HKQ.out;omega⟩,⟨by have:=HCN.out;omega⟩,HF2,rfl⟩
         ·have cnb : decide ((n : Int) < 8) = false:=decide_eq_false (by omega)
          have hf:=HFIN.out
          obtain rfl : n = 8:=by have:=HNL.out;omega
          have e9 : (if (List.drop (8 + 1) ([k0,k1,k2,k3,k4,k5,k6,k7,k8] : List Int)).any (fun x => decide (16384 < x)) = true then headErr 41 else GOOD) = GOOD:=rfl
          rw [e9] at hf
          subst hf
          have hgd:=HGOOD.out
          subst hgd
          clear HFIN HGOOD e9 cn
          go_wp2
          exact head_ret rfl rfl rfl rfl (blk2 (w:=w5.drew) HF5.out _ _) (Kd.R_set (Kd.R_set (Kd.R_drew HR5.out) (show w5.drew.heap[w.heap.size]? = _ from HF5.out) (by decide) 0 _) (blk_set (show w5.drew.heap[w.heap.size]? = _ from HF5.out) 0 _) (by decide) 1 _) (((below_drew HB5.out).setCell (p:=⟨w.heap.size,0,none⟩) (Nat.le_refl _) _).setCell (p:=⟨w.heap.size,1,none⟩) (Nat.le_refl _) _)
   ·have cab:=bytes_ne ca
    by_cases ci : word = aigB
    ·subst ci
     rw [if_neg (by intro h;exact h.2 rfl)] at hfin
     unfold aigB at HC2 hfin
     clear cab
     by_cases c5 : ns.length < 5
     ·rw [if_pos c5] at hfin
      have c5b : decide ((ns.length : Int) < 5) = true:=decide_eq_true (by omega)
      clear c5
      subst hfin
      go_enter Tryz.func18,Tryz.ntmps18
      go_wp2_with (first|(go_at_call 51;refine (HC1.out _ (GV_below HG.out HB0.out) HZ.out.1).mono ?_;rintro e w1 ⟨rfl,hb⟩;have HB1:=A0_.mk (HB0.out.trans (hb.mono HB0.out.size));have HF1:=A0_.mk ((hb.block _ (blk_lt HF0.out)).trans HF0.out);clear hb HC1)|(go_at_call 51;refine (HC2.out _ (GV_below HG.out HB1.out) HZ.out.2.1).mono ?_;rintro e w2 ⟨rfl,hb⟩;have HB2:=A0_.mk (HB1.out.trans (hb.mono HB1.out.size));have HF2:=A0_.mk ((hb.block _ (blk_lt HF1.out)).trans HF1.out);clear hb HC2)|(go_at_call 52;refine (numbers_calls rest w2 (GV_below HG.out HB2.out) HZ.out.2.2 ns true HN.out).mono ?_;rintro e w3 ⟨v,rfl,hr,hb⟩;obtain ⟨A,cp,rfl⟩:=Kd.R_slice hr;have HB3:=A0_.mk (HB2.out.trans (hb.mono HB2.out.size));have hf3:=(hb.block _ (blk_lt HF2.out)).trans HF2.out;have HF3:=A0_.mk hf3;have HR3:=A0_.mk (Kd.R_lower hr HB2.out.size);have y0:=bC_ hf3 0;have y1:=bC_ hf3 1;have z0:=bF_ hf3 0;have z1:=bF_ hf3 1;clear hb hr hf3))
      exact head_ret rfl rfl rfl rfl (blk2 HF3.out _ _) (Kd.R_nil _ _ _ _ _) ((HB3.out.setCell (p:=⟨w.heap.size,0,none⟩) (Nat.le_refl _) _).setCell (p:=⟨w.heap.size,1,none⟩) (Nat.le_refl _) _)
     ·rw [if_neg c5] at hfin
      have c5b : decide ((ns.length : Int) < 5) = false:=decide_eq_false (by omega)
      by_cases c9 : 9 < ns.length
      ·rw [if_pos c9] at hfin
       have c9b : decide ((9 : Int) < (ns.length : Int)) = true:=decide_eq_true (by omega)
       clear c5 c9
       subst hfin
       go_enter Tryz.func18,Tryz.ntmps18
       go_wp2_with (first|(go_at_call 51;refine (HC1.out _ (GV_below HG.out HB0.out) HZ.out.1).mono ?_;rintro e w1 ⟨rfl,hb⟩;have HB1:=A0_.mk (HB0.out.trans (hb.mono HB0.out.size));have HF1:=A0_.mk ((hb.block _ (blk_lt HF0.out)).trans HF0.out);clear hb HC1)|(go_at_call 51;refine (HC2.out _ (GV_below HG.out HB1.out) HZ.out.2.1).mono ?_;rintro e w2 ⟨rfl,hb⟩;have HB2:=A0_.mk (HB1.out.trans (hb.mono HB1.out.size));have HF2:=A0_.mk ((hb.block _ (blk_lt HF1.out)).trans HF1.out);clear hb HC2)|(go_at_call 52;refine (numbers_calls rest w2 (GV_below HG.out HB2.out) HZ.out.2.2 ns true HN.out).mono ?_;rintro e w3 ⟨v,rfl,hr,hb⟩;obtain ⟨A,cp,rfl⟩:=Kd.R_slice hr;have HB3:=A0_.mk (HB2.out.trans (hb.mono HB2.out.size));have hf3:=(hb.block _ (blk_lt HF2.out)).trans HF2.out;have HF3:=A0_.mk hf3;have HR3:=A0_.mk (Kd.R_lower hr HB2.out.size);have y0:=bC_ hf3 0;have y1:=bC_ hf3 1;have z0:=bF_ hf3 0;have z1:=bF_ hf3 1;clear hb hr hf3))
       exact head_ret rfl rfl rfl rfl (blk2 HF3.out _ _) (Kd.R_nil _ _ _ _ _) ((HB3.out.setCell (p:=⟨w.heap.size,0,none⟩) (Nat.le_refl _) _).setCell (p:=⟨w.heap.size,1,none⟩) (Nat.le_refl _) _)
      ·rw [if_neg c9] at hfin
       have c9b : decide ((9 : Int) < (ns.length : Int)) = false:=decide_eq_false (by omega)
       have h9 : ns.length ≤ 9:=by omega
       obtain ⟨k0,k1,k2,k3,k4,k5,k6,k7,k8,hk⟩:=list9 (nine_len h9)
       have hkr:=nine_range HRG.out
       rw [hk] at hfin hkr
       have r0:=hkr k0 (by simp)
       have r1:=hkr k1 (by simp)
       have r2:=hkr k2 (by simp)
       have r4:=hkr k4 (by simp)
       have HK:=A0_.mk hk
       have H9:=A0_.mk h9
       have HKL:=A0_.mk hkr
       have hmk:=make9
       clear c5 c9 hk h9 hkr
       go_enter Tryz.func18,Tryz.ntmps18
       go_upto_region 9 with (first|(go_at_call 51;refine (HC1.out _ (GV_below HG.out HB0.out) HZ.out.1).mono ?_;rintro e w1 ⟨rfl,hb⟩;have HB1:=A0_.mk (HB0.out.trans (hb.mono HB0.out.size));have HF1:=A0_.mk ((hb.block _ (blk_lt HF0.out)).trans HF0.out);clear hb HC1)|(go_at_call 51;refine (HC2.out _ (GV_below HG.out HB1.out) HZ.out.2.1).mono ?_;rintro e w2 ⟨rfl,hb⟩;have HB2:=A0_.mk (HB1.out.trans (hb.mono HB1.out.size));have HF2:=A0_.mk ((hb.block _ (blk_lt HF1.out)).trans HF1.out);clear hb HC2)|(go_at_call 52;refine (numbers_calls rest w2 (GV_below HG.out HB2.out) HZ.out.2.2 ns true HN.out).mono ?_;rintro e w3 ⟨v,rfl,hr,hb⟩;obtain ⟨A,cp,rfl⟩:=Kd.R_slice hr;have HB3:=A0_.mk (HB2.out.trans (hb.mono HB2.out.size));have hf3:=(hb.block _ (blk_lt HF2.out)).trans HF2.out;have HF3:=A0_.mk hf3;have HR3:=A0_.mk (Kd.R_lower hr HB2.out.size);have y0:=bC_ hf3 0;have y1:=bC_ hf3 1;have z0:=bF_ hf3 0;have z1:=bF_ hf3 1;clear hb hr hf3))
       have HV:=A0_.mk (own9 w3 w.heap.size HB3.out.size)
       have HN3:=A0_.mk (Kd.C_below (Kd.R_reads' HR3.out).2.2 (eA_ (Below.refl w3.heap.size w3) (.cells #[.int .i64 0,.int .i64 0,.int .i64 0,.int .i64 0,.int .i64 0,.int .i64 0,.int .i64 0,.int .i64 0,.int .i64 0] 3)))
       have HB4:=A0_.mk (eA_ HB3.out (.cells #[.int .i64 0,.int .i64 0,.int .i64 0,.int .i64 0,.int .i64 0,.int .i64 0,.int .i64 0,.int .i64 0,.int .i64 0] 3))
       have HF4:=A0_.mk (bA_ HF3.out (.cells #[.int .i64 0,.int .i64 0,.int .i64 0,.int .i64 0,.int .i64 0,.int .i64 0,.int .i64 0,.int .i64 0,.int .i64 0] 3))
       have HGL:=A0_.mk (blk_lt HF3.out)
       clear y0 y1 z0 z1 hmk
       generalize w3.heap.size = g at HV HGL ⊢
       generalize w3.alloc (.cells #[.int .i64 0,.int .i64 0,.int .i64 0,.int .i64 0,.int .i64 0,.int .i64 0,.int .i64 0,.int .i64 0,.int .i64 0] 3) = w4 at HV HN3 HB4 HF4 ⊢
       go_upto_region 10 with (first|((with_reducible refine gate_builtin (b:=.copy) (xs:=#[.tmp 62,.tmp 63]) rfl ?_);refine Kd.R_copy (0 : Int) (w0:=w) w.heap.size rfl (.tmp 62) (.tmp 63) 22 22 3 rfl Tryz.underlying22 info3s (.slice (some ⟨g,0,none⟩) 9 9) [0,0,0,0,0,0,0,0,0] ns A ns.length cp (fun _ => True) rfl rfl HV.out HN3.out HB4.out HB4.out.size ?_;intro w5 hr5 hb5 hg5;rw [nine_eq H9.out,HK.out] at hr5;have HR5:=A0_.mk hr5;have HB5:=A0_.mk hb5;have HF5:=A0_.mk (blk_grown HF4.out hg5 (fun e => absurd (Option.some.inj e : w.heap.size = g) (by have:=HGL.out;omega)));clear hr5 hb5 hg5))
       have hc:=row9 HR5.out
       have y0 : w5.cell? ⟨g,0,none⟩ = some (.int .i64 k0):=hc 0 (by decide)
       have y1 : w5.cell? ⟨g,1,none⟩ = some (.int .i64 k1):=hc 1 (by decide)
       have y2 : w5.cell? ⟨g,2,none⟩ = some (.int .i64 k2):=hc 2 (by decide)
       have y4 : w5.cell? ⟨g,4,none⟩ = some (.int .i64 k4):=hc 4 (by decide)
       have z0:=bC_ HF5.out 0
       have z1:=bC_ HF5.out 1
       have q0:=bF_ HF5.out 0
       have q1:=bF_ HF5.out 1
       have HC:=A0_.mk hc
       clear hc
       have w12 : IntKind.i64.wrap (k1 + k2) = k1 + k2:=by rw [IntKind.wrap_i64];omega
       have w124 : IntKind.i64.wrap (k1 + k2 + k4) = k1 + k2 + k4:=by rw [IntKind.wrap_i64];omega
       have e0 : ([k0,k1,k2,k3,k4,k5,k6,k7,k8] : List Int).getD 0 0 = k0:=rfl
       have e1 : ([k0,k1,k2,k3,k4,k5,k6,k7,k8] : List Int).getD 1 0 = k1:=rfl
       have e2 : ([k0,k1,k2,k3,k4,k5,k6,k7,k8] : List Int).getD 2 0 = k2:=rfl
       have e4 : ([k0,k1,k2,k3,k4,k5,k6,k7,k8] : List Int).getD 4 0 = k4:=rfl
       rw [e0,e1,e2,e4] at hfin
       by_cases p1 : 16384 < k0
       ·rw [if_pos p1] at hfin
        have p1b : decide ((16384 : Int) < k0) = true:=decide_eq_true p1
        subst hfin
        clear p1 e0 e1 e2 e4
        refine wp_normal' ?_
        refine start_ (n:=21) (S:=fun w' => w'.cell? ⟨g,0,none⟩ = some (.int .i64 k0) ∧ w'.cell? ⟨g,1,none⟩ = some (.int .i64 k1) ∧ w'.cell? ⟨g,2,none⟩ = some (.int .i64 k2) ∧ w'.cell? ⟨g,4,none⟩ = some (.int .i64 k4)) (ds:=[]) (Array.replicate 21 false) (by kernel_rfl) rfl rfl ⟨y0,y1,y2,y4⟩ (fun hHeld => ?_)
        refine pure_ (i:=0) (N:=some 65) (v:=?_) (a':=?_) (zA_ 21 1) rfl rfl (by kernel_rfl) (fun _ _ _ h => by cases h.1) (Or.inl ⟨by rfl,?_⟩) ?_ ?_
        rotate_left
        ·intro w'
         go_simp
         with_reducible rfl
        rotate_left
        ·simp only [Act.put,sA_,sB_,sC_]
         rfl
        refine pure_ (i:=1) (N:=some 66) (v:=?_) (a':=?_) (zA_ 21 3) rfl rfl (by kernel_rfl) (fun _ _ _ h => by cases h.1) (Or.inl ⟨by rfl,?_⟩) ?_ ?_
        rotate_left
        ·intro w'
         go_simp
         with_reducible rfl
        rotate_left
        ·simp only [Act.put,sA_,sB_,sC_]
         rfl
        refine take_ (i:=2) (N:=some 67) (v:=?_) (a':=?_) (zA_ 21 7) rfl rfl (by kernel_rfl) (fun _ _ _ h => by cases h.1) (Or.inl ⟨by rfl,?_⟩) hHeld ?_ ?_
        rotate_left
        ·intro w' s0
         obtain ⟨s0_,s1_,s2_,s3_⟩:=s0
         go_simp
         with_reducible rfl
        rotate_left
        ·simp only [Act.put,sA_,sB_,sC_]
         rfl
        refine pure_ (i:=3) (N:=some 68) (v:=?_) (a':=?_) (zA_ 21 15) rfl rfl (by kernel_rfl) (fun _ _ _ h => by cases h.1) (Or.inl ⟨by rfl,?_⟩) ?_ ?_
        rotate_left
        ·intro w'
         go_simp
         with_reducible rfl
        rotate_left
        ·simp only [Act.put,sA_,sB_,sC_]
         rfl
        refine pure_ (i:=4) (N:=some 69) (v:=?_) (a':=?_) (zA_ 21 31) rfl rfl (by kernel_rfl) (fun _ _ _ h => by cases h.1) (Or.inl ⟨by rfl,?_⟩) ?_ ?_
        rotate_left
        ·intro w'
         go_simp
         with_reducible rfl
        rotate_left
        ·simp only [Act.put,sA_,sB_,sC_]
         rfl
        refine pure_ (i:=5) (N:=some 70) (v:=undef) (a':=?_) (zA_ 21 63) rfl rfl (by kernel_rfl) (fun _ _ _ h => by cases h.1) (Or.inr ⟨by rfl,rfl⟩) ?_ ?_
        rotate_left
        ·simp only [Act.put,sA_,sB_,sC_]
         rfl
        refine pure_ (i:=6) (N:=some 71) (v:=undef) (a':=?_) (zA_ 21 127) rfl rfl (by kernel_rfl) (fun _ _ _ h => by cases h.1) (Or.inr ⟨by rfl,rfl⟩) ?_ ?_
        rotate_left
        ·simp only [Act.put,sA_,sB_,sC_]
         rfl
        refine pure_ (i:=7) (N:=some 72) (v:=undef) (a':=?_) (zA_ 21 255) rfl rfl (by kernel_rfl) (fun _ _ _ h => by cases h.1) (Or.inr ⟨by rfl,rfl⟩) ?_ ?_
        rotate_left
        ·simp only [Act.put,sA_,sB_,sC_]
         rfl
        refine pure_ (i:=8) (N:=some 73) (v:=undef) (a':=?_) (zA_ 21 511) rfl rfl (by kernel_rfl) (fun _ _ _ h => by cases h.1) (Or.inr ⟨by rfl,rfl⟩) ?_ ?_
        rotate_left
        ·simp only [Act.put,sA_,sB_,sC_]
         rfl
        refine pure_ (i:=9) (N:=some 74) (v:=undef) (a':=?_) (zA_ 21 1023) rfl rfl (by kernel_rfl) (fun _ _ _ h => by cases h.1) (Or.inr ⟨by rfl,rfl⟩) ?_ ?_
        rotate_left
        ·simp only [Act.put,sA_,sB_,sC_]
         rfl
        refine pure_ (i:=10) (N:=some 75) (v:=undef) (a':=?_) (zA_ 21 2047) rfl rfl (by kernel_rfl) (fun _ _ _ h => by cases h.1) (Or.inr ⟨by rfl,rfl⟩) ?_ ?_
        rotate_left
        ·simp only [Act.put,sA_,sB_,sC_]
         rfl
        refine pure_ (i:=11) (N:=some 76) (v:=undef) (a':=?_) (zA_ 21 4095) rfl rfl (by kernel_rfl) (fun _ _ _ h => by cases h.1) (Or.inr ⟨by rfl,rfl⟩) ?_ ?_
        rotate_left
        ·simp only [Act.put,sA_,sB_,sC_]
         rfl
        refine pure_ (i:=12) (N:=some 77) (v:=undef) (a':=?_) (zA_ 21 8191) rfl rfl (by kernel_rfl) (fun _ _ _ h => by cases h.1) (Or.inr ⟨by rfl,rfl⟩) ?_ ?_
        rotate_left
        ·simp only [Act.put,sA_,sB_,sC_]
         rfl
        refine pure_ (i:=13) (N:=some 78) (v:=undef) (a':=?_) (zA_ 21 16383) rfl rfl (by kernel_rfl) (fun _ _ _ h => by cases h.1) (Or.inr ⟨by rfl,rfl⟩) ?_ ?_
        rotate_left
        ·simp only [Act.put,sA_,sB_,sC_]
         rfl
        refine pure_ (i:=14) (N:=some 79) (v:=undef) (a':=?_) (zA_ 21 32767) rfl rfl (by kernel_rfl) (fun _ _ _ h => by cases h.1) (Or.inr ⟨by rfl,rfl⟩) ?_ ?_
        rotate_left
        ·simp only [Act.put,sA_,sB_,sC_]
         rfl
        refine pure_ (i:=15) (N:=some 80) (v:=undef) (a':=?_) (zA_ 21 65535) rfl rfl (by kernel_rfl) (fun _ _ _ h => by cases h.1) (Or.inr ⟨by rfl,rfl⟩) ?_ ?_
        rotate_left
        ·simp only [Act.put,sA_,sB_,sC_]
         rfl
        refine pure_ (i:=16) (N:=some 81) (v:=undef) (a':=?_) (zA_ 21 131071) rfl rfl (by kernel_rfl) (fun _ _ _ h => by cases h.1) (Or.inr ⟨by rfl,rfl⟩) ?_ ?_
        rotate_left
        ·simp only [Act.put,sA_,sB_,sC_]
         rfl
        refine pure_ (i:=17) (N:=some 82) (v:=undef) (a':=?_) (zA_ 21 262143) rfl rfl (by kernel_rfl) (fun _ _ _ h => by cases h.1) (Or.inr ⟨by rfl,rfl⟩) ?_ ?_
        rotate_left
        ·simp only [Act.put,sA_,sB_,sC_]
         rfl
        refine pure_ (i:=18) (N:=some 83) (v:=undef) (a':=?_) (zA_ 21 524287) rfl rfl (by kernel_rfl) (fun _ _ _ h => by cases h.1) (Or.inr ⟨by rfl,rfl⟩) ?_ ?_
        rotate_left
        ·simp only [Act.put,sA_,sB_,sC_]
         rfl
        refine pure_ (i:=19) (N:=some 84) (v:=undef) (a':=?_) (zA_ 21 1048575) rfl rfl (by kernel_rfl) (fun _ _ _ h => by cases h.1) (Or.inr ⟨by rfl,rfl⟩) ?_ ?_
        rotate_left
        ·simp only [Act.put,sA_,sB_,sC_]
         rfl
        refine pure_ (i:=20) (N:=some 85) (v:=?_) (a':=?_) (zA_ 21 2097151) rfl rfl (by kernel_rfl) (fun _ _ _ h => by cases h.1) (Or.inl ⟨by rfl,?_⟩) ?_ ?_
        rotate_left
        ·intro w'
         go_simp
         with_reducible rfl
        rotate_left
        ·simp only [Act.put,sA_,sB_,sC_]
         rfl
        refine done_ (by kernel_rfl) ?_
        refine ⟨rfl,?_⟩
        rename_i hKK
        refine hKK _ _ ?_
        go_wp2
        exact head_ret rfl rfl rfl rfl (blk2 (w:=w5.drew) HF5.out _ _) (Kd.R_nil _ _ _ _ _) (((below_drew HB5.out).setCell (p:=⟨w.heap.size,0,none⟩) (Nat.le_refl _) _).setCell (p:=⟨w.heap.size,1,none⟩) (Nat.le_refl _) _)
       ·rw [if_neg p1] at hfin
        have p1b : decide ((16384 : Int) < k0) = false:=decide_eq_false p1
        by_cases p2 : k0 < k1 + k2 + k4
        ·rw [if_pos p2] at hfin
         have p2b : decide (k0 < k1 + k2 + k4) = true:=decide_eq_true p2
         subst hfin
         clear p1 p2 e0 e1 e2 e4
         refine wp_normal' ?_
         refine start_ (n:=21) (S:=fun w' => w'.cell? ⟨g,0,none⟩ = some (.int .i64 k0) ∧ w'.cell? ⟨g,1,none⟩ = some (.int .i64 k1) ∧ w'.cell? ⟨g,2,none⟩ = some (.int .i64 k2) ∧ w'.cell? ⟨g,4,none⟩ = some (.int .i64 k4)) (ds:=[]) (Array.replicate 21 false) (by kernel_rfl) rfl rfl ⟨y0,y1,y2,y4⟩ (fun hHeld => ?_)
         refine pure_ (i:=0) (N:=some 65) (v:=?_) (a':=?_) (zA_ 21 1) rfl rfl (by kernel_rfl) (fun _ _ _ h => by cases h.1) (Or.inl ⟨by rfl,?_⟩) ?_ ?_
         rotate_left
         ·intro w'
          go_simp
          with_reducible rfl
         rotate_left
         ·simp only [Act.put,sA_,sB_,sC_]
          rfl
         refine pure_ (i:=1) (N:=some 66) (v:=?_) (a':=?_) (zA_ 21 3) rfl rfl (by kernel_rfl) (fun _ _ _ h => by cases h.1) (Or.inl ⟨by rfl,?_⟩) ?_ ?_
         rotate_left
         ·intro w'
          go_simp
          with_reducible rfl
         rotate_left
         ·simp only [Act.put,sA_,sB_,sC_]
          rfl
         refine take_ (i:=2) (N:=some 67) (v:=?_) (a':=?_) (zA_ 21 7) rfl rfl (by kernel_rfl) (fun _ _ _ h => by cases h.1) (Or.inl ⟨by rfl,?_⟩) hHeld ?_ ?_
         rotate_left
         ·intro w' s0
          obtain ⟨s0_,s1_,s2_,s3_⟩:=s0
          go_simp
          with_reducible rfl
         rotate_left
         ·simp only [Act.put,sA_,sB_,sC_]
          rfl
         refine pure_ (i:=3) (N:=some 68) (v:=?_) (a':=?_) (zA_ 21 15) rfl rfl (by kernel_rfl) (fun _ _ _ h => by cases h.1) (Or.inl ⟨by rfl,?_⟩) ?_ ?_
         rotate_left
         ·intro w'
          go_simp
          with_reducible rfl
         rotate_left
         ·simp only [Act.put,sA_,sB_,sC_]
          rfl
         refine pure_ (i:=4) (N:=some 69) (v:=?_) (a':=?_) (zA_ 21 31) rfl rfl (by kernel_rfl) (fun _ _ _ h => by cases h.1) (Or.inl ⟨by rfl,?_⟩) ?_ ?_
         rotate_left
         ·intro w'
          go_simp
          with_reducible rfl
         rotate_left
         ·simp only [Act.put,sA_,sB_,sC_]
          rfl
         refine pure_ (i:=5) (N:=some 70) (v:=?_) (a':=?_) (zA_ 21 63) rfl rfl (by kernel_rfl) (fun _ _ _ h => by cases h.1) (Or.inl ⟨by rfl,?_⟩) ?_ ?_
         rotate_left
         ·intro w'
          go_simp
          with_reducible rfl
         rotate_left
         ·simp only [Act.put,sA_,sB_,sC_]
          rfl
         refine pure_ (i:=6) (N:=some 71) (v:=?_) (a':=?_) (zA_ 21 127) rfl rfl (by kernel_rfl) (fun _ _ _ h => by cases h.1) (Or.inl ⟨by rfl,?_⟩) ?_ ?_
         rotate_left
         ·intro w'
          go_simp
          with_reducible rfl
         rotate_left
         ·simp only [Act.put,sA_,sB_,sC_]
          rfl
         refine take_ (i:=7) (N:=some 72) (v:=?_) (a':=?_) (zA_ 21 255) rfl rfl (by kernel_rfl) (fun _ _ _ h => by cases h.1) (Or.inl ⟨by rfl,?_⟩) hHeld ?_ ?_
         rotate_left
         ·intro w' s0
          obtain ⟨s0_,s1_,s2_,s3_⟩:=s0
          go_simp
          with_reducible rfl
         rotate_left
         ·simp only [Act.put,sA_,sB_,sC_]
          rfl
         refine pure_ (i:=8) (N:=some 73) (v:=?_) (a':=?_) (zA_ 21 511) rfl rfl (by kernel_rfl) (fun _ _ _ h => by cases h.1) (Or.inl ⟨by rfl,?_⟩) ?_ ?_
         rotate_left
         ·intro w'
          go_simp
          with_reducible rfl
         rotate_left
         ·simp only [Act.put,sA_,sB_,sC_]
          rfl
         refine pure_ (i:=9) (N:=some 74) (v:=?_) (a':=?_) (zA_ 21 1023) rfl rfl (by kernel_rfl) (fun _ _ _ h => by cases h.1) (Or.inl ⟨by rfl,?_⟩) ?_ ?_
         rotate_left
         ·intro w'
          go_simp
          with_reducible rfl
         rotate_left
         ·simp only [Act.put,sA_,sB_,sC_]
          rfl
         refine take_ (i:=10) (N:=some 75) (v:=?_) (a':=?_) (zA_ 21 2047) rfl rfl (by kernel_rfl) (fun _ _ _ h => by cases h.1) (Or.inl ⟨by rfl,?_⟩) hHeld ?_ ?_
         rotate_left
         ·intro w' s0
          obtain ⟨s0_,s1_,s2_,s3_⟩:=s0
          go_simp
          with_reducible rfl
         rotate_left
         ·simp only [Act.put,sA_,sB_,sC_]
          rfl
         refine pure_ (i:=11) (N:=some 76) (v:=?_) (a':=?_) (zA_ 21 4095) rfl rfl (by kernel_rfl) (fun _ _ _ h => by cases h.1) (Or.inl ⟨by rfl,?_⟩) ?_ ?_
         rotate_left
         ·intro w'
          go_simp
          with_reducible rfl
         rotate_left
         ·simp only [Act.put,sA_,sB_,sC_]
          rfl
         refine pure_ (i:=12) (N:=some 77) (v:=?_) (a':=?_) (zA_ 21 8191) rfl rfl (by kernel_rfl) (fun _ _ _ h => by cases h.1) (Or.inl ⟨by rfl,?_⟩) ?_ ?_
         rotate_left
         ·intro w'
          go_simp
          with_reducible rfl
         rotate_left
         ·simp only [Act.put,sA_,sB_,sC_]
          rfl
         refine pure_ (i:=13) (N:=some 78) (v:=?_) (a':=?_) (zA_ 21 16383) rfl rfl (by kernel_rfl) (fun _ _ _ h => by cases h.1) (Or.inl ⟨by rfl,?_⟩) ?_ ?_
         rotate_left
         ·intro w'
          go_simp
          with_reducible rfl
         rotate_left
         ·simp only [Act.put,sA_,sB_,sC_]
          rfl
         refine take_ (i:=14) (N:=some 79) (v:=?_) (a':=?_) (zA_ 21 32767) rfl rfl (by kernel_rfl) (fun _ _ _ h => by cases h.1) (Or.inl ⟨by rfl,?_⟩) hHeld ?_ ?_
         rotate_left
         ·intro w' s0
          obtain ⟨s0_,s1_,s2_,s3_⟩:=s0
          go_simp
          with_reducible rfl
         rotate_left
         ·simp only [Act.put,sA_,sB_,sC_]
          rfl
         refine pure_ (i:=15) (N:=some 80) (v:=?_) (a':=?_) (zA_ 21 65535) rfl rfl (by kernel_rfl) (fun _ _ _ h => by cases h.1) (Or.inl ⟨by rfl,?_⟩) ?_ ?_
         rotate_left
         ·intro w'
          go_simp
          with_reducible rfl
         rotate_left
         ·simp only [Act.put,sA_,sB_,sC_]
          rfl
         refine pure_ (i:=16) (N:=some 81) (v:=?_) (a':=?_) (zA_ 21 131071) rfl rfl (by kernel_rfl) (fun _ _ _ h => by cases h.1) (Or.inl ⟨by rfl,?_⟩) ?_ ?_
         rotate_left
         ·intro w'
          go_simp
          with_reducible rfl
         rotate_left
         ·simp only [Act.put,sA_,sB_,sC_]
          rfl
         refine pure_ (i:=17) (N:=some 82) (v:=?_) (a':=?_) (zA_ 21 262143) rfl rfl (by kernel_rfl) (fun _ _ _ h => by cases h.1) (Or.inl ⟨by rfl,?_⟩) ?_ ?_
         rotate_left
         ·intro w'
          go_simp
          with_reducible rfl
         rotate_left
         ·simp only [Act.put,sA_,sB_,sC_]
          rfl
         refine take_ (i:=18) (N:=some 83) (v:=?_) (a':=?_) (zA_ 21 524287) rfl rfl (by kernel_rfl) (fun _ _ _ h => by cases h.1) (Or.inl ⟨by rfl,?_⟩) hHeld ?_ ?_
         rotate_left
         ·intro w' s0
          obtain ⟨s0_,s1_,s2_,s3_⟩:=s0
          go_simp
          with_reducible rfl
         rotate_left
         ·simp only [Act.put,sA_,sB_,sC_]
          rfl
         refine pure_ (i:=19) (N:=some 84) (v:=?_) (a':=?_) (zA_ 21 1048575) rfl rfl (by kernel_rfl) (fun _ _ _ h => by cases h.1) (Or.inl ⟨by rfl,?_⟩) ?_ ?_
         rotate_left
         ·intro w'
          go_simp
          with_reducible rfl
         rotate_left
         ·simp only [Act.put,sA_,sB_,sC_]
          rfl
         refine pure_ (i:=20) (N:=some 85) (v:=?_) (a':=?_) (zA_ 21 2097151) rfl rfl (by kernel_rfl) (fun _ _ _ h => by cases h.1) (Or.inl ⟨by rfl,?_⟩) ?_ ?_
         rotate_left
         ·intro w'
          go_simp
          with_reducible rfl
         rotate_left
         ·simp only [Act.put,sA_,sB_,sC_]
          rfl
         refine done_ (by kernel_rfl) ?_
         refine ⟨rfl,?_⟩
         rename_i hKK
         refine hKK _ _ ?_
         go_wp2
         exact head_ret rfl rfl rfl rfl (blk2 (w:=w5.drew) HF5.out _ _) (Kd.R_nil _ _ _ _ _) (((below_drew HB5.out).setCell (p:=⟨w.heap.size,0,none⟩) (Nat.le_refl _) _).setCell (p:=⟨w.heap.size,1,none⟩) (Nat.le_refl _) _)
        ·rw [if_neg p2] at hfin
         have p2b : decide (k0 < k1 + k2 + k4) = false:=decide_eq_false p2
         clear p1 p2 e0 e1 e2 e4
         refine wp_normal' ?_
         refine start_ (n:=21) (S:=fun w' => w'.cell? ⟨g,0,none⟩ = some (.int .i64 k0) ∧ w'.cell? ⟨g,1,none⟩ = some (.int .i64 k1) ∧ w'.cell? ⟨g,2,none⟩ = some (.int .i64 k2) ∧ w'.cell? ⟨g,4,none⟩ = some (.int .i64 k4)) (ds:=[]) (Array.replicate 21 false) (by kernel_rfl) rfl rfl ⟨y0,y1,y2,y4⟩ (fun hHeld => ?_)
         refine pure_ (i:=0) (N:=some 65) (v:=?_) (a':=?_) (zA_ 21 1) rfl rfl (by kernel_rfl) (fun _ _ _ h => by cases h.1) (Or.inl ⟨by rfl,?_⟩) ?_ ?_
         rotate_left
         ·intro w'
          go_simp
          with_reducible rfl
         rotate_left
         ·simp only [Act.put,sA_,sB_,sC_]
          rfl
         refine pure_ (i:=1) (N:=some 66) (v:=?_) (a':=?_) (zA_ 21 3) rfl rfl (by kernel_rfl) (fun _ _ _ h => by cases h.1) (Or.inl ⟨by rfl,?_⟩) ?_ ?_
         rotate_left
         ·intro w'
          go_simp
          with_reducible rfl
         rotate_left
         ·simp only [Act.put,sA_,sB_,sC_]
          rfl
         refine take_ (i:=2) (N:=some 67) (v:=?_) (a':=?_) (zA_ 21 7) rfl rfl (by kernel_rfl) (fun _ _ _ h => by cases h.1) (Or.inl ⟨by rfl,?_⟩) hHeld ?_ ?_
         rotate_left
         ·intro w' s0
          obtain ⟨s0_,s1_,s2_,s3_⟩:=s0
          go_simp
          with_reducible rfl
         rotate_left
         ·simp only [Act.put,sA_,sB_,sC_]
          rfl
         refine pure_ (i:=3) (N:=some 68) (v:=?_) (a':=?_) (zA_ 21 15) rfl rfl (by kernel_rfl) (fun _ _ _ h => by cases h.1) (Or.inl ⟨by rfl,?_⟩) ?_ ?_
         rotate_left
         ·intro w'
          go_simp
          with_reducible rfl
         rotate_left
         ·simp only [Act.put,sA_,sB_,sC_]
          rfl
         refine pure_ (i:=4) (N:=some 69) (v:=?_) (a':=?_) (zA_ 21 31) rfl rfl (by kernel_rfl) (fun _ _ _ h => by cases h.1) (Or.inl ⟨by rfl,?_⟩) ?_ ?_
         rotate_left
         ·intro w'
          go_simp
          with_reducible rfl
         rotate_left
         ·simp only [Act.put,sA_,sB_,sC_]
          rfl
         refine pure_ (i:=5) (N:=some 70) (v:=?_) (a':=?_) (zA_ 21 63) rfl rfl (by kernel_rfl) (fun _ _ _ h => by cases h.1) (Or.inl ⟨by rfl,?_⟩) ?_ ?_
         rotate_left
         ·intro w'
          go_simp
          with_reducible rfl
         rotate_left
         ·simp only [Act.put,sA_,sB_,sC_]
          rfl
         refine pure_ (i:=6) (N:=some 71) (v:=?_) (a':=?_) (zA_ 21 127) rfl rfl (by kernel_rfl) (fun _ _ _ h => by cases h.1) (Or.inl ⟨by rfl,?_⟩) ?_ ?_
         rotate_left
         ·intro w'
          go_simp
          with_reducible rfl
         rotate_left
         ·simp only [Act.put,sA_,sB_,sC_]
          rfl
         refine take_ (i:=7) (N:=some 72) (v:=?_) (a':=?_) (zA_ 21 255) rfl rfl (by kernel_rfl) (fun _ _ _ h => by cases h.1) (Or.inl ⟨by rfl,?_⟩) hHeld ?_ ?_
         rotate_left
         ·intro w' s0
          obtain ⟨s0_,s1_,s2_,s3_⟩:=s0
          go_simp
          with_reducible rfl
         rotate_left
         ·simp only [Act.put,sA_,sB_,sC_]
          rfl
         refine pure_ (i:=8) (N:=some 73) (v:=?_) (a':=?_) (zA_ 21 511) rfl rfl (by kernel_rfl) (fun _ _ _ h => by cases h.1) (Or.inl ⟨by rfl,?_⟩) ?_ ?_
         rotate_left
         ·intro w'
          go_simp
          with_reducible rfl
         rotate_left
         ·simp only [Act.put,sA_,sB_,sC_]
          rfl
         refine pure_ (i:=9) (N:=some 74) (v:=?_) (a':=?_) (zA_ 21 1023) rfl rfl (by kernel_rfl) (fun _ _ _ h => by cases h.1) (Or.inl ⟨by rfl,?_⟩) ?_ ?_
         rotate_left
         ·intro w'
          go_simp
          with_reducible rfl
         rotate_left
         ·simp only [Act.put,sA_,sB_,sC_]
          rfl
         refine take_ (i:=10) (N:=some 75) (v:=?_) (a':=?_) (zA_ 21 2047) rfl rfl (by kernel_rfl) (fun _ _ _ h => by cases h.1) (Or.inl ⟨by rfl,?_⟩) hHeld ?_ ?_
         rotate_left
         ·intro w' s0
          obtain ⟨s0_,s1_,s2_,s3_⟩:=s0
          go_simp
          with_reducible rfl
         rotate_left
         ·simp only [Act.put,sA_,sB_,sC_]
          rfl
         refine pure_ (i:=11) (N:=some 76) (v:=?_) (a':=?_) (zA_ 21 4095) rfl rfl (by kernel_rfl) (fun _ _ _ h => by cases h.1) (Or.inl ⟨by rfl,?_⟩) ?_ ?_
         rotate_left
         ·intro w'
          go_simp
          with_reducible rfl
         rotate_left
         ·simp only [Act.put,sA_,sB_,sC_]
          rfl
         refine pure_ (i:=12) (N:=some 77) (v:=?_) (a':=?_) (zA_ 21 8191) rfl rfl (by kernel_rfl) (fun _ _ _ h => by cases h.1) (Or.inl ⟨by rfl,?_⟩) ?_ ?_
         rotate_left
         ·intro w'
          go_simp
          with_reducible rfl
         rotate_left
         ·simp only [Act.put,sA_,sB_,sC_]
          rfl
         refine pure_ (i:=13) (N:=some 78) (v:=?_) (a':=?_) (zA_ 21 16383) rfl rfl (by kernel_rfl) (fun _ _ _ h => by cases h.1) (Or.inl ⟨by rfl,?_⟩) ?_ ?_
         rotate_left
         ·intro w'
          go_simp
          with_reducible rfl
         rotate_left
         ·simp only [Act.put,sA_,sB_,sC_]
          rfl
         refine take_ (i:=14) (N:=some 79) (v:=?_) (a':=?_) (zA_ 21 32767) rfl rfl (by kernel_rfl) (fun _ _ _ h => by cases h.1) (Or.inl ⟨by rfl,?_⟩) hHeld ?_ ?_
         rotate_left
         ·intro w' s0
          obtain ⟨s0_,s1_,s2_,s3_⟩:=s0
          go_simp
          with_reducible rfl
         rotate_left
         ·simp only [Act.put,sA_,sB_,sC_]
          rfl
         refine pure_ (i:=15) (N:=some 80) (v:=?_) (a':=?_) (zA_ 21 65535) rfl rfl (by kernel_rfl) (fun _ _ _ h => by cases h.1) (Or.inl ⟨by rfl,?_⟩) ?_ ?_
         rotate_left
         ·intro w'
          go_simp
          with_reducible rfl
         rotate_left
         ·simp only [Act.put,sA_,sB_,sC_]
          rfl
         refine pure_ (i:=16) (N:=some 81) (v:=?_) (a':=?_) (zA_ 21 131071) rfl rfl (by kernel_rfl) (fun _ _ _ h => by cases h.1) (Or.inl ⟨by rfl,?_⟩) ?_ ?_
         rotate_left
         ·intro w'
          go_simp
          with_reducible rfl
         rotate_left
         ·simp only [Act.put,sA_,sB_,sC_]
          rfl
         refine pure_ (i:=17) (N:=some 82) (v:=?_) (a':=?_) (zA_ 21 262143) rfl rfl (by kernel_rfl) (fun _ _ _ h => by cases h.1) (Or.inl ⟨by rfl,?_⟩) ?_ ?_
         rotate_left
         ·intro w'
          go_simp
          with_reducible rfl
         rotate_left
         ·simp only [Act.put,sA_,sB_,sC_]
          rfl
         refine take_ (i:=18) (N:=some 83) (v:=?_) (a':=?_) (zA_ 21 524287) rfl rfl (by kernel_rfl) (fun _ _ _ h => by cases h.1) (Or.inl ⟨by rfl,?_⟩) hHeld ?_ ?_
         rotate_left
         ·intro w' s0
          obtain ⟨s0_,s1_,s2_,s3_⟩:=s0
          go_simp
          with_reducible rfl
         rotate_left
         ·simp only [Act.put,sA_,sB_,sC_]
          rfl
         refine pure_ (i:=19) (N:=some 84) (v:=?_) (a':=?_) (zA_ 21 1048575) rfl rfl (by kernel_rfl) (fun _ _ _ h => by cases h.1) (Or.inl ⟨by rfl,?_⟩) ?_ ?_
         rotate_left
         ·intro w'
          go_simp
          with_reducible rfl
         rotate_left
         ·simp only [Act.put,sA_,sB_,sC_]
          rfl
         refine pure_ (i:=20) (N:=some 85) (v:=?_) (a':=?_) (zA_ 21 2097151) rfl rfl (by kernel_rfl) (fun _ _ _ h => by cases h.1) (Or.inl ⟨by rfl,?_⟩) ?_ ?_
         rotate_left
         ·intro w'
          go_simp
          with_reducible rfl
         rotate_left
         ·simp only [Act.put,sA_,sB_,sC_]
          rfl
         refine done_ (by kernel_rfl) ?_
         refine ⟨rfl,?_⟩
         rename_i hKK
         refine hKK _ _ ?_
         clear hKK hHeld w12 w124
         generalize hgood : ((⟨#[97,105,103]⟩ : ByteArray),([k0,k1,k2,k3,k4,k5,k6,k7,k8] : List Int),(l.size : Int) + 1,(0 : Int)) = GOOD at hfin
         have HGOOD:=A0_.mk hgood
         have HFIN:=A0_.mk hfin
         have hwl : IntKind.i64.wrap ((l.size : Int) + 1) = (l.size : Int) + 1:=by have:=HZ.out;rw [IntKind.wrap_i64];omega
         clear hgood hfin y0 y1 y2 y4 r0 r1 r2 r4
         go_wp2
         (try simp only [Act.put,sA_,sB_,sC_])
         go_loopg [2,3,90] 9 (fun kq v2 v3 v90 w' => ∃ n : Nat,v2 = .string ⟨#[97,105,103]⟩ ∧ v3 = .slice (some ⟨g,0,none⟩) 9 9 ∧ v90 = .int .i64 n ∧ A0_ (n + kq = 9) ∧ A0_ (n ≤ 8) ∧ A0_ ((if (List.drop (n + 1) ([k0,k1,k2,k3,k4,k5,k6,k7,k8] : List Int)).any (fun x => decide (16384 < x)) = true then headErr 41 else GOOD) = fin) ∧ w' = w5.drew)
         case atStart => exact ⟨0,rfl,rfl,rfl,⟨rfl⟩,⟨by omega⟩,HFIN,rfl⟩
         case round =>
          clear HFIN
          obtain ⟨n,rfl,rfl,rfl,HKQ,HNL,HFIN,rfl⟩:=hrel
          by_cases cn : n < 8
          ·obtain ⟨g1,rfl⟩ : ∃ g1,gk = g1 + 1:=by
            cases gk with
            |zero => have:=HKQ.out;omega
            |succ g1 => exact ⟨g1,rfl⟩
           have cnb : decide ((n : Int) < 8) = true:=decide_eq_true (by omega)
           have p0 : (0 ≤ (n : Int)) = True:=eq_true (by omega)
           have p1 : ((n : Int) < 8) = True:=eq_true (by omega)
           have hw1 : IntKind.i64.wrap ((n : Int) + 1) = ((n + 1 : Nat) : Int):=by rw [IntKind.wrap_i64];omega
           have hlt : n + 1 < ([k0,k1,k2,k3,k4,k5,k6,k7,k8] : List Int).length:=by show n + 1 < 9;omega
           have hdr : List.drop (n + 1) ([k0,k1,k2,k3,k4,k5,k6,k7,k8] : List Int) = ([k0,k1,k2,k3,k4,k5,k6,k7,k8] : List Int).getD (n + 1) 0 :: List.drop (n + 1 + 1) ([k0,k1,k2,k3,k4,k5,k6,k7,k8] : List Int):=by
            rw [List.drop_eq_getElem_cons hlt]
            simp [List.getD_eq_getElem?_getD,List.getElem?_eq_getElem hlt]
           have hf:=HFIN.out
           rw [hdr,List.any_cons] at hf
           have hc1 : w5.cell? ⟨g,1 + n,none⟩ = some (.int .i64 (([k0,k1,k2,k3,k4,k5,k6,k7,k8] : List Int).getD (n + 1) 0)):=by rw [Nat.add_comm];exact HC.out (n + 1) (by omega)
           generalize ([k0,k1,k2,k3,k4,k5,k6,k7,k8] : List Int).getD (n + 1) 0 = kn at hc1 hf
           by_cases ck : 16384 < kn
           ·have ckb : decide ((16384 : Int) < kn) = true:=decide_eq_true ck
            rw [ckb,Bool.true_or,if_pos rfl] at hf
            subst hf
            clear ck hdr hlt cn HFIN
            go_wp2
            exact head_ret rfl rfl rfl rfl (blk2 (w:=w5.drew) HF5.out _ _) (Kd.R_nil _ _ _ _ _) (((below_drew HB5.out).setCell (p:=⟨w.heap.size,0,none⟩) (Nat.le_refl _) _).setCell (p:=⟨w.heap.size,1,none⟩) (Nat.le_refl _) _)
           ·have ckb : decide ((16384 : Int) < kn) = false:=decide_eq_false ck
            rw [ckb,Bool.false_or] at hf
            have HF2:=A0_.mk hf
            have HCN:=A0_.mk cn
            clear hf ck hdr hlt cn HFIN
            go_wp2
            go_roundg g1
            case measure => omega
            case rel => exact ⟨n + 1,rfl,rfl,rfl,⟨by have:=HKQ.out;omega⟩,⟨by have:=HCN.out;omega⟩,HF2,rfl⟩
          ·have cnb : decide ((n : Int) < 8) = false:=decide_eq_false (by omega)
           have hf:=HFIN.out
           obtain rfl : n = 8:=by have:=HNL.out;omega
           have e9 : (if (List.drop (8 + 1) ([k0,k1,k2,k3,k4,k5,k6,k7,k8] : List Int)).any (fun x => decide (16384 < x)) = true then headErr 41 else GOOD) = GOOD:=rfl
           rw [e9] at hf
           subst hf
           have hgd:=HGOOD.out
           subst hgd
           clear HFIN HGOOD e9 cn
           go_wp2
           exact head_ret rfl rfl rfl rfl (blk2 (w:=w5.drew) HF5.out _ _) (Kd.R_set (Kd.R_set (Kd.R_drew HR5.out) (show w5.drew.heap[w.heap.size]? = _ from HF5.out) (by decide) 0 _) (blk_set (show w5.drew.heap[w.heap.size]? = _ from HF5.out) 0 _) (by decide) 1 _) (((below_drew HB5.out).setCell (p:=⟨w.heap.size,0,none⟩) (Nat.le_refl _) _).setCell (p:=⟨w.heap.size,1,none⟩) (Nat.le_refl _) _)
    ·have cib:=bytes_ne ci
     rw [if_pos ⟨ca,ci⟩] at hfin
     clear ca ci
     subst hfin
     go_enter Tryz.func18,Tryz.ntmps18
     go_wp2_with (first|(go_at_call 51;refine (HC1.out _ (GV_below HG.out HB0.out) HZ.out.1).mono ?_;rintro e w1 ⟨rfl,hb⟩;have HB1:=A0_.mk (HB0.out.trans (hb.mono HB0.out.size));have HF1:=A0_.mk ((hb.block _ (blk_lt HF0.out)).trans HF0.out);clear hb HC1)|(go_at_call 51;refine (HC2.out _ (GV_below HG.out HB1.out) HZ.out.2.1).mono ?_;rintro e w2 ⟨rfl,hb⟩;have HB2:=A0_.mk (HB1.out.trans (hb.mono HB1.out.size));have HF2:=A0_.mk ((hb.block _ (blk_lt HF1.out)).trans HF1.out);clear hb HC2)|(go_at_call 52;refine (numbers_calls rest w2 (GV_below HG.out HB2.out) HZ.out.2.2 ns true HN.out).mono ?_;rintro e w3 ⟨v,rfl,hr,hb⟩;obtain ⟨A,cp,rfl⟩:=Kd.R_slice hr;have HB3:=A0_.mk (HB2.out.trans (hb.mono HB2.out.size));have hf3:=(hb.block _ (blk_lt HF2.out)).trans HF2.out;have HF3:=A0_.mk hf3;have HR3:=A0_.mk (Kd.R_lower hr HB2.out.size);have y0:=bC_ hf3 0;have y1:=bC_ hf3 1;have z0:=bF_ hf3 0;have z1:=bF_ hf3 1;clear hb hr hf3))
     exact head_ret rfl rfl rfl rfl (blk2 HF3.out _ _) (Kd.R_nil _ _ _ _ _) ((HB3.out.setCell (p:=⟨w.heap.size,0,none⟩) (Nat.le_refl _) _).setCell (p:=⟨w.heap.size,1,none⟩) (Nat.le_refl _) _)
end Go.Proofs.YtdmngdohlobogaaGreatDoor.Asc

