import Derived.Test.YtifigmamaakigaaDoorBV2
namespace Go.Proofs.YtifigmamaakigaaDoor.V
open Go Go.RowKit Go.Proofs.YtifigmamaakigaaDoorW.PrintWords Go.Proofs.YtifigmamaakigaaDoorW.PrintLast Go.Proofs.YtifigmamaakigaaDoorW.PrintMore
set_option linter.unusedVariables false
set_option linter.unusedSimpArgs false
theorem SHlower {B C : Nat} {w W : World} (hc : C ≤ B) (h : Below B w W) : Below C w W:=⟨h.os,h.tape,h.output,h.size,fun k hk => h.block k (by omega)⟩
theorem wordF_none {k : Int} : (wordF k).toList = [] ↔ ¬ (k = 0 ∨ k = 3 ∨ k = 4):=by
  rw [ByteArray.toList_eq]
  unfold wordF
  by_cases c : k < 0 ∨ k ≥ 5
  · rw [if_pos c]
    constructor
    · intro _;omega
    · intro _;rfl
  · rw [if_neg c]
    obtain ⟨n,rfl⟩ : ∃ n : Nat,k = (n : Int):=⟨k.toNat,by omega⟩
    have hn : n < 5:=by omega
    rw [Int.toNat_natCast]
    rcases n with _|_|_|_|_|n
    · simp [kindL]
    · simp [kindL]
    · simp [kindL]
    · simp [kindL]
    · simp [kindL]
    · omega
theorem toList_none {s : ByteArray} : s.toList = [] ↔ s.size = 0:=by
  rw [ByteArray.toList_eq,← List.length_eq_zero_iff]
  rfl
theorem rune_pred (w : World) : PredAtRunes Tryd.prog 38 #[] (fun c => decide (c < 33) || decide (c > 126)) w:=by
  intro V x hx _
  show Calls Tryd.prog 38 (#[encR x] ++ #[]) V _
  rw [Array.append_empty]
  exact (rune_calls hx).mono (fun e w' h => ⟨h.1,0,h.2⟩)
theorem may_no1 {r : RW} (h : propB r = false) : mayB r = false:=by
  unfold propB at h
  unfold mayB
  rw [h]
  rfl
theorem may_no2 {r : RW} (h : r.f2.toList = []) : mayB r = false:=by
  have:=toList_none.1 h
  have e : decide (1 ≤ r.f2.size) = false:=decide_eq_false (by omega)
  unfold mayB
  rw [e]
  simp
theorem may_no3 {r : RW} (h : (64 : Int) < (r.f2.size : Int)) : mayB r = false:=by
  have e : decide (r.f2.size ≤ 64) = false:=decide_eq_false (by omega)
  unfold mayB
  rw [e]
  simp
theorem may_no4 {r : RW} (h : (wordF r.f3).toList = []) : mayB r = false:=by
  have:=wordF_none.1 h
  have e : (r.f3 == 0 || r.f3 == 3 || r.f3 == 4) = false:=by simp;omega
  unfold mayB
  rw [e]
  simp
theorem may_no5 {r : RW} (h : r.f4 < 0) : mayB r = false:=by
  have e : decide (0 ≤ r.f4) = false:=decide_eq_false (by omega)
  unfold mayB
  rw [e]
  simp
theorem may_no6 {r : RW} (h : 512 < r.f4) : mayB r = false:=by
  have e : decide (r.f4 ≤ 512) = false:=decide_eq_false (by omega)
  unfold mayB
  rw [e]
  simp
theorem may_ok {r : RW} (h1 : ¬ propB r = false) (h2 : ¬ r.f2.toList = []) (h3 : ¬ (64 : Int) < (r.f2.size : Int)) (h4 : ¬ (wordF r.f3).toList = []) (h5 : ¬ r.f4 < 0) (h6 : ¬ 512 < r.f4) : mayB r = engB r.f2:=by
  have e1 : propB r = true:=by simpa using h1
  unfold propB at e1
  have e2 : decide (1 ≤ r.f2.size) = true:=decide_eq_true (Nat.pos_of_ne_zero (fun h => h2 (toList_none.2 h)))
  have e3 : decide (r.f2.size ≤ 64) = true:=decide_eq_true (by omega)
  have e4 : (r.f3 == 0 || r.f3 == 3 || r.f3 == 4) = true:=by
    have : r.f3 = 0 ∨ r.f3 = 3 ∨ r.f3 = 4:=Classical.byContradiction (fun h => h4 (wordF_none.2 h))
    simp
    omega
  have e5 : decide (0 ≤ r.f4) = true:=decide_eq_true (by omega)
  have e6 : decide (r.f4 ≤ 512) = true:=decide_eq_true (by omega)
  unfold mayB
  rw [e1,e2,e3,e4,e5,e6]
  simp
set_option maxHeartbeats 4000000 in
set_option maxRecDepth 100000 in
theorem may_calls {w : World} {r : RW} (hK : KV w) : Calls Tryd.prog 26 #[.agg #[.int .u8 r.f0,.int .i64 r.f1,.string r.f2,.int .i64 r.f3,.int .i64 r.f4]] w fun e w' => e = .returned (.bool (mayB r)) ∧ Below w.heap.size w w':=by
  have hu29:=Tryd.underlying29
  have hu31:=Tryd.underlying31
  have HK:=Aside0.mk hK
  clear hK
  obtain ⟨MB,hMB⟩ : ∃ MB,mayB r = MB:=⟨_,rfl⟩
  have hx : (w.alloc (.cells #[.int .u8 r.f0,.int .i64 r.f1,.string r.f2,.int .i64 r.f3,.int .i64 r.f4] 31)).heap[w.heap.size]? = some (.cells #[.int .u8 r.f0,.int .i64 r.f1,.string r.f2,.int .i64 r.f3,.int .i64 r.f4] 31 (0,0)):=blk_new w _
  have hb1 : Below w.heap.size w (w.alloc (.cells #[.int .u8 r.f0,.int .i64 r.f1,.string r.f2,.int .i64 r.f3,.int .i64 r.f4] 31)):=below_alloc (Below.refl _ _) _
  have HB:=Aside0.mk hb1
  have HKa:=Aside0.mk (HK.out.below hb1)
  clear hb1 hMB MB
  have PC:=Aside0.mk (isProp_calls (w:=w.alloc (.cells #[.int .u8 r.f0,.int .i64 r.f1,.string r.f2,.int .i64 r.f3,.int .i64 r.f4] 31)) (r:=r))
  have HX:=Aside0.mk hx
  clear hx
  by_cases d1 : propB r = false
  · have hv : mayB r = false:=may_no1 d1
    rw [d1] at PC
    rw [hv]
    clear hv
    go_enter Tryd.func26,Tryd.ntmps26
    go_upto_region 1 with (fail)
    obtain ⟨q,hq⟩ : ∃ q,w.heap.size = q:=⟨_,rfl⟩
    have hx:=HX.out
    rw [hq] at hx ⊢
    clear hq HX
    generalize w.alloc (.cells #[.int .u8 r.f0,.int .i64 r.f1,.string r.f2,.int .i64 r.f3,.int .i64 r.f4] 31) = W at hx HB HKa PC ⊢
    have y0 : W.cell? ⟨q,0,none⟩ = some (.int .u8 r.f0):=blk_cell hx 0
    have y1 : W.cell? ⟨q,1,none⟩ = some (.int .i64 r.f1):=blk_cell hx 1
    have y2 : W.cell? ⟨q,2,none⟩ = some (.string r.f2):=blk_cell hx 2
    have y3 : W.cell? ⟨q,3,none⟩ = some (.int .i64 r.f3):=blk_cell hx 3
    have y4 : W.cell? ⟨q,4,none⟩ = some (.int .i64 r.f4):=blk_cell hx 4
    have HX:=Aside0.mk hx
    clear hx
    go_wp2_with (first|((with_reducible refine gate_callee (f:=36) rfl ?_);refine goesL_ (some 5) rfl rfl Tryd.func36 (by kernel_rfl) rfl #[.agg #[.int .u8 r.f0,.int .i64 r.f1]] rfl (by (try simp only [List.map_toArray,List.map_cons,List.map_nil]);first|done|rfl) ?_;(with_reducible refine (PC.out).mono ?_);rintro e w2 ⟨rfl,hb⟩;refine ⟨_,rfl,?_⟩;have HB2:=Aside0.mk (HB.out.trans (SHlower HB.out.size hb));have HX2:=Aside0.mk (blk_below HX.out hb);have HK2:=Aside0.mk (HKa.out.below hb);have z1 : w2.cell? ⟨q,1,none⟩ = some (.int .i64 r.f1):=blk_cell HX2.out 1;have z2 : w2.cell? ⟨q,2,none⟩ = some (.string r.f2):=blk_cell HX2.out 2;have z3 : w2.cell? ⟨q,3,none⟩ = some (.int .i64 r.f3):=blk_cell HX2.out 3;have z4 : w2.cell? ⟨q,4,none⟩ = some (.int .i64 r.f4):=blk_cell HX2.out 4;clear hb PC HX HKa HB y0 y1 y2 y3 y4)|(go_at_call 19;refine (word_calls HK2.out).mono ?_;rintro e w3 ⟨rfl,hw3⟩;replace hw3:=hw3.symm;subst hw3)|(go_at_call 37;refine (Tryd.strings_ContainsFunc_runes 38 #[] (enters_of Tryd.func38 (by kernel_rfl) rfl) (fun c => decide (c < 33) || decide (c > 126)) r.f2 w2 (rune_pred w2)).mono ?_;rintro e w4 ⟨rfl,hb4⟩;have HB4:=Aside0.mk (HB2.out.trans (SHlower HB2.out.size hb4));clear hb4))
    repeat (go_quiet (fail);try go_wp2)
    go_ret
    exact ⟨rfl,HB2.out⟩
  · skip
    by_cases d2 : r.f2.toList = []
    · have hv : mayB r = false:=may_no2 d2
      have e1 : propB r = true:=by simpa using d1
      rw [e1] at PC
      clear d1 e1
      rw [hv]
      clear hv
      go_enter Tryd.func26,Tryd.ntmps26
      go_upto_region 1 with (fail)
      obtain ⟨q,hq⟩ : ∃ q,w.heap.size = q:=⟨_,rfl⟩
      have hx:=HX.out
      rw [hq] at hx ⊢
      clear hq HX
      generalize w.alloc (.cells #[.int .u8 r.f0,.int .i64 r.f1,.string r.f2,.int .i64 r.f3,.int .i64 r.f4] 31) = W at hx HB HKa PC ⊢
      have y0 : W.cell? ⟨q,0,none⟩ = some (.int .u8 r.f0):=blk_cell hx 0
      have y1 : W.cell? ⟨q,1,none⟩ = some (.int .i64 r.f1):=blk_cell hx 1
      have y2 : W.cell? ⟨q,2,none⟩ = some (.string r.f2):=blk_cell hx 2
      have y3 : W.cell? ⟨q,3,none⟩ = some (.int .i64 r.f3):=blk_cell hx 3
      have y4 : W.cell? ⟨q,4,none⟩ = some (.int .i64 r.f4):=blk_cell hx 4
      have HX:=Aside0.mk hx
      clear hx
      go_wp2_with (first|((with_reducible refine gate_callee (f:=36) rfl ?_);refine goesL_ (some 5) rfl rfl Tryd.func36 (by kernel_rfl) rfl #[.agg #[.int .u8 r.f0,.int .i64 r.f1]] rfl (by (try simp only [List.map_toArray,List.map_cons,List.map_nil]);first|done|rfl) ?_;(with_reducible refine (PC.out).mono ?_);rintro e w2 ⟨rfl,hb⟩;refine ⟨_,rfl,?_⟩;have HB2:=Aside0.mk (HB.out.trans (SHlower HB.out.size hb));have HX2:=Aside0.mk (blk_below HX.out hb);have HK2:=Aside0.mk (HKa.out.below hb);have z1 : w2.cell? ⟨q,1,none⟩ = some (.int .i64 r.f1):=blk_cell HX2.out 1;have z2 : w2.cell? ⟨q,2,none⟩ = some (.string r.f2):=blk_cell HX2.out 2;have z3 : w2.cell? ⟨q,3,none⟩ = some (.int .i64 r.f3):=blk_cell HX2.out 3;have z4 : w2.cell? ⟨q,4,none⟩ = some (.int .i64 r.f4):=blk_cell HX2.out 4;clear hb PC HX HKa HB y0 y1 y2 y3 y4)|(go_at_call 19;refine (word_calls HK2.out).mono ?_;rintro e w3 ⟨rfl,hw3⟩;replace hw3:=hw3.symm;subst hw3)|(go_at_call 37;refine (Tryd.strings_ContainsFunc_runes 38 #[] (enters_of Tryd.func38 (by kernel_rfl) rfl) (fun c => decide (c < 33) || decide (c > 126)) r.f2 w2 (rune_pred w2)).mono ?_;rintro e w4 ⟨rfl,hb4⟩;have HB4:=Aside0.mk (HB2.out.trans (SHlower HB2.out.size hb4));clear hb4))
      repeat (go_quiet (fail);try go_wp2)
      go_ret
      exact ⟨rfl,HB2.out⟩
    · skip
      by_cases d3 : (64 : Int) < (r.f2.size : Int)
      · have hv : mayB r = false:=may_no3 d3
        have e1 : propB r = true:=by simpa using d1
        rw [e1] at PC
        clear d1 e1
        rw [hv]
        clear hv
        go_enter Tryd.func26,Tryd.ntmps26
        go_upto_region 1 with (fail)
        obtain ⟨q,hq⟩ : ∃ q,w.heap.size = q:=⟨_,rfl⟩
        have hx:=HX.out
        rw [hq] at hx ⊢
        clear hq HX
        generalize w.alloc (.cells #[.int .u8 r.f0,.int .i64 r.f1,.string r.f2,.int .i64 r.f3,.int .i64 r.f4] 31) = W at hx HB HKa PC ⊢
        have y0 : W.cell? ⟨q,0,none⟩ = some (.int .u8 r.f0):=blk_cell hx 0
        have y1 : W.cell? ⟨q,1,none⟩ = some (.int .i64 r.f1):=blk_cell hx 1
        have y2 : W.cell? ⟨q,2,none⟩ = some (.string r.f2):=blk_cell hx 2
        have y3 : W.cell? ⟨q,3,none⟩ = some (.int .i64 r.f3):=blk_cell hx 3
        have y4 : W.cell? ⟨q,4,none⟩ = some (.int .i64 r.f4):=blk_cell hx 4
        have HX:=Aside0.mk hx
        clear hx
        go_wp2_with (first|((with_reducible refine gate_callee (f:=36) rfl ?_);refine goesL_ (some 5) rfl rfl Tryd.func36 (by kernel_rfl) rfl #[.agg #[.int .u8 r.f0,.int .i64 r.f1]] rfl (by (try simp only [List.map_toArray,List.map_cons,List.map_nil]);first|done|rfl) ?_;(with_reducible refine (PC.out).mono ?_);rintro e w2 ⟨rfl,hb⟩;refine ⟨_,rfl,?_⟩;have HB2:=Aside0.mk (HB.out.trans (SHlower HB.out.size hb));have HX2:=Aside0.mk (blk_below HX.out hb);have HK2:=Aside0.mk (HKa.out.below hb);have z1 : w2.cell? ⟨q,1,none⟩ = some (.int .i64 r.f1):=blk_cell HX2.out 1;have z2 : w2.cell? ⟨q,2,none⟩ = some (.string r.f2):=blk_cell HX2.out 2;have z3 : w2.cell? ⟨q,3,none⟩ = some (.int .i64 r.f3):=blk_cell HX2.out 3;have z4 : w2.cell? ⟨q,4,none⟩ = some (.int .i64 r.f4):=blk_cell HX2.out 4;clear hb PC HX HKa HB y0 y1 y2 y3 y4)|(go_at_call 19;refine (word_calls HK2.out).mono ?_;rintro e w3 ⟨rfl,hw3⟩;replace hw3:=hw3.symm;subst hw3)|(go_at_call 37;refine (Tryd.strings_ContainsFunc_runes 38 #[] (enters_of Tryd.func38 (by kernel_rfl) rfl) (fun c => decide (c < 33) || decide (c > 126)) r.f2 w2 (rune_pred w2)).mono ?_;rintro e w4 ⟨rfl,hb4⟩;have HB4:=Aside0.mk (HB2.out.trans (SHlower HB2.out.size hb4));clear hb4))
        repeat (go_quiet (fail);try go_wp2)
        go_ret
        exact ⟨rfl,HB2.out⟩
      · skip
        have b3 : decide ((64 : Int) < (r.f2.size : Int)) = false:=decide_eq_false d3
        by_cases d4 : (wordF r.f3).toList = []
        · have hv : mayB r = false:=may_no4 d4
          have e1 : propB r = true:=by simpa using d1
          rw [e1] at PC
          clear d1 e1
          rw [hv]
          clear hv
          go_enter Tryd.func26,Tryd.ntmps26
          go_upto_region 1 with (fail)
          obtain ⟨q,hq⟩ : ∃ q,w.heap.size = q:=⟨_,rfl⟩
          have hx:=HX.out
          rw [hq] at hx ⊢
          clear hq HX
          generalize w.alloc (.cells #[.int .u8 r.f0,.int .i64 r.f1,.string r.f2,.int .i64 r.f3,.int .i64 r.f4] 31) = W at hx HB HKa PC ⊢
          have y0 : W.cell? ⟨q,0,none⟩ = some (.int .u8 r.f0):=blk_cell hx 0
          have y1 : W.cell? ⟨q,1,none⟩ = some (.int .i64 r.f1):=blk_cell hx 1
          have y2 : W.cell? ⟨q,2,none⟩ = some (.string r.f2):=blk_cell hx 2
          have y3 : W.cell? ⟨q,3,none⟩ = some (.int .i64 r.f3):=blk_cell hx 3
          have y4 : W.cell? ⟨q,4,none⟩ = some (.int .i64 r.f4):=blk_cell hx 4
          have HX:=Aside0.mk hx
          clear hx
          go_wp2_with (first|((with_reducible refine gate_callee (f:=36) rfl ?_);refine goesL_ (some 5) rfl rfl Tryd.func36 (by kernel_rfl) rfl #[.agg #[.int .u8 r.f0,.int .i64 r.f1]] rfl (by (try simp only [List.map_toArray,List.map_cons,List.map_nil]);first|done|rfl) ?_;(with_reducible refine (PC.out).mono ?_);rintro e w2 ⟨rfl,hb⟩;refine ⟨_,rfl,?_⟩;have HB2:=Aside0.mk (HB.out.trans (SHlower HB.out.size hb));have HX2:=Aside0.mk (blk_below HX.out hb);have HK2:=Aside0.mk (HKa.out.below hb);have z1 : w2.cell? ⟨q,1,none⟩ = some (.int .i64 r.f1):=blk_cell HX2.out 1;have z2 : w2.cell? ⟨q,2,none⟩ = some (.string r.f2):=blk_cell HX2.out 2;have z3 : w2.cell? ⟨q,3,none⟩ = some (.int .i64 r.f3):=blk_cell HX2.out 3;have z4 : w2.cell? ⟨q,4,none⟩ = some (.int .i64 r.f4):=blk_cell HX2.out 4;clear hb PC HX HKa HB y0 y1 y2 y3 y4)|(go_at_call 19;refine (word_calls HK2.out).mono ?_;rintro e w3 ⟨rfl,hw3⟩;replace hw3:=hw3.symm;subst hw3)|(go_at_call 37;refine (Tryd.strings_ContainsFunc_runes 38 #[] (enters_of Tryd.func38 (by kernel_rfl) rfl) (fun c => decide (c < 33) || decide (c > 126)) r.f2 w2 (rune_pred w2)).mono ?_;rintro e w4 ⟨rfl,hb4⟩;have HB4:=Aside0.mk (HB2.out.trans (SHlower HB2.out.size hb4));clear hb4))
          repeat (go_quiet (fail);try go_wp2)
          go_ret
          exact ⟨rfl,HB2.out⟩
        · skip
          by_cases d5 : r.f4 < 0
          · have hv : mayB r = false:=may_no5 d5
            have e1 : propB r = true:=by simpa using d1
            rw [e1] at PC
            clear d1 e1
            rw [hv]
            clear hv
            go_enter Tryd.func26,Tryd.ntmps26
            go_upto_region 1 with (fail)
            obtain ⟨q,hq⟩ : ∃ q,w.heap.size = q:=⟨_,rfl⟩
            have hx:=HX.out
            rw [hq] at hx ⊢
            clear hq HX
            generalize w.alloc (.cells #[.int .u8 r.f0,.int .i64 r.f1,.string r.f2,.int .i64 r.f3,.int .i64 r.f4] 31) = W at hx HB HKa PC ⊢
            have y0 : W.cell? ⟨q,0,none⟩ = some (.int .u8 r.f0):=blk_cell hx 0
            have y1 : W.cell? ⟨q,1,none⟩ = some (.int .i64 r.f1):=blk_cell hx 1
            have y2 : W.cell? ⟨q,2,none⟩ = some (.string r.f2):=blk_cell hx 2
            have y3 : W.cell? ⟨q,3,none⟩ = some (.int .i64 r.f3):=blk_cell hx 3
            have y4 : W.cell? ⟨q,4,none⟩ = some (.int .i64 r.f4):=blk_cell hx 4
            have HX:=Aside0.mk hx
            clear hx
            go_wp2_with (first|((with_reducible refine gate_callee (f:=36) rfl ?_);refine goesL_ (some 5) rfl rfl Tryd.func36 (by kernel_rfl) rfl #[.agg #[.int .u8 r.f0,.int .i64 r.f1]] rfl (by (try simp only [List.map_toArray,List.map_cons,List.map_nil]);first|done|rfl) ?_;(with_reducible refine (PC.out).mono ?_);rintro e w2 ⟨rfl,hb⟩;refine ⟨_,rfl,?_⟩;have HB2:=Aside0.mk (HB.out.trans (SHlower HB.out.size hb));have HX2:=Aside0.mk (blk_below HX.out hb);have HK2:=Aside0.mk (HKa.out.below hb);have z1 : w2.cell? ⟨q,1,none⟩ = some (.int .i64 r.f1):=blk_cell HX2.out 1;have z2 : w2.cell? ⟨q,2,none⟩ = some (.string r.f2):=blk_cell HX2.out 2;have z3 : w2.cell? ⟨q,3,none⟩ = some (.int .i64 r.f3):=blk_cell HX2.out 3;have z4 : w2.cell? ⟨q,4,none⟩ = some (.int .i64 r.f4):=blk_cell HX2.out 4;clear hb PC HX HKa HB y0 y1 y2 y3 y4)|(go_at_call 19;refine (word_calls HK2.out).mono ?_;rintro e w3 ⟨rfl,hw3⟩;replace hw3:=hw3.symm;subst hw3)|(go_at_call 37;refine (Tryd.strings_ContainsFunc_runes 38 #[] (enters_of Tryd.func38 (by kernel_rfl) rfl) (fun c => decide (c < 33) || decide (c > 126)) r.f2 w2 (rune_pred w2)).mono ?_;rintro e w4 ⟨rfl,hb4⟩;have HB4:=Aside0.mk (HB2.out.trans (SHlower HB2.out.size hb4));clear hb4))
            repeat (go_quiet (fail);try go_wp2)
            go_ret
            exact ⟨rfl,HB2.out⟩
          · skip
            have b5 : decide (r.f4 < 0) = false:=decide_eq_false d5
            by_cases d6 : 512 < r.f4
            · have hv : mayB r = false:=may_no6 d6
              have e1 : propB r = true:=by simpa using d1
              rw [e1] at PC
              clear d1 e1
              rw [hv]
              clear hv
              go_enter Tryd.func26,Tryd.ntmps26
              go_upto_region 1 with (fail)
              obtain ⟨q,hq⟩ : ∃ q,w.heap.size = q:=⟨_,rfl⟩
              have hx:=HX.out
              rw [hq] at hx ⊢
              clear hq HX
              generalize w.alloc (.cells #[.int .u8 r.f0,.int .i64 r.f1,.string r.f2,.int .i64 r.f3,.int .i64 r.f4] 31) = W at hx HB HKa PC ⊢
              have y0 : W.cell? ⟨q,0,none⟩ = some (.int .u8 r.f0):=blk_cell hx 0
              have y1 : W.cell? ⟨q,1,none⟩ = some (.int .i64 r.f1):=blk_cell hx 1
              have y2 : W.cell? ⟨q,2,none⟩ = some (.string r.f2):=blk_cell hx 2
              have y3 : W.cell? ⟨q,3,none⟩ = some (.int .i64 r.f3):=blk_cell hx 3
              have y4 : W.cell? ⟨q,4,none⟩ = some (.int .i64 r.f4):=blk_cell hx 4
              have HX:=Aside0.mk hx
              clear hx
              go_wp2_with (first|((with_reducible refine gate_callee (f:=36) rfl ?_);refine goesL_ (some 5) rfl rfl Tryd.func36 (by kernel_rfl) rfl #[.agg #[.int .u8 r.f0,.int .i64 r.f1]] rfl (by (try simp only [List.map_toArray,List.map_cons,List.map_nil]);first|done|rfl) ?_;(with_reducible refine (PC.out).mono ?_);rintro e w2 ⟨rfl,hb⟩;refine ⟨_,rfl,?_⟩;have HB2:=Aside0.mk (HB.out.trans (SHlower HB.out.size hb));have HX2:=Aside0.mk (blk_below HX.out hb);have HK2:=Aside0.mk (HKa.out.below hb);have z1 : w2.cell? ⟨q,1,none⟩ = some (.int .i64 r.f1):=blk_cell HX2.out 1;have z2 : w2.cell? ⟨q,2,none⟩ = some (.string r.f2):=blk_cell HX2.out 2;have z3 : w2.cell? ⟨q,3,none⟩ = some (.int .i64 r.f3):=blk_cell HX2.out 3;have z4 : w2.cell? ⟨q,4,none⟩ = some (.int .i64 r.f4):=blk_cell HX2.out 4;clear hb PC HX HKa HB y0 y1 y2 y3 y4)|(go_at_call 19;refine (word_calls HK2.out).mono ?_;rintro e w3 ⟨rfl,hw3⟩;replace hw3:=hw3.symm;subst hw3)|(go_at_call 37;refine (Tryd.strings_ContainsFunc_runes 38 #[] (enters_of Tryd.func38 (by kernel_rfl) rfl) (fun c => decide (c < 33) || decide (c > 126)) r.f2 w2 (rune_pred w2)).mono ?_;rintro e w4 ⟨rfl,hb4⟩;have HB4:=Aside0.mk (HB2.out.trans (SHlower HB2.out.size hb4));clear hb4))
              repeat (go_quiet (fail);try go_wp2)
              go_ret
              exact ⟨rfl,HB2.out⟩
            · skip
              have b6 : decide (512 < r.f4) = false:=decide_eq_false d6
              have hv : mayB r = engB r.f2:=may_ok d1 d2 d3 d4 d5 d6
              unfold engB at hv
              obtain ⟨B,hB⟩ : ∃ B,decide (0 ≤ Lib.idxFunc (fun c => decide (c < 33) || decide (c > 126)) true r.f2) = B:=⟨_,rfl⟩
              rw [hB] at hv
              rw [hv]
              have HBB:=Aside0.mk hB
              clear hv hB
              have e1 : propB r = true:=by simpa using d1
              rw [e1] at PC
              clear d1 e1
              have i2 : r.f2.toList.isEmpty = false:=by simpa using d2
              have i4 : (wordF r.f3).toList.isEmpty = false:=by simpa using d4
              cases B with
              | true =>
                go_enter Tryd.func26,Tryd.ntmps26
                go_upto_region 1 with (fail)
                obtain ⟨q,hq⟩ : ∃ q,w.heap.size = q:=⟨_,rfl⟩
                have hx:=HX.out
                rw [hq] at hx ⊢
                clear hq HX
                generalize w.alloc (.cells #[.int .u8 r.f0,.int .i64 r.f1,.string r.f2,.int .i64 r.f3,.int .i64 r.f4] 31) = W at hx HB HKa PC ⊢
                have y0 : W.cell? ⟨q,0,none⟩ = some (.int .u8 r.f0):=blk_cell hx 0
                have y1 : W.cell? ⟨q,1,none⟩ = some (.int .i64 r.f1):=blk_cell hx 1
                have y2 : W.cell? ⟨q,2,none⟩ = some (.string r.f2):=blk_cell hx 2
                have y3 : W.cell? ⟨q,3,none⟩ = some (.int .i64 r.f3):=blk_cell hx 3
                have y4 : W.cell? ⟨q,4,none⟩ = some (.int .i64 r.f4):=blk_cell hx 4
                have HX:=Aside0.mk hx
                clear hx
                go_wp2_with (first|((with_reducible refine gate_callee (f:=36) rfl ?_);refine goesL_ (some 5) rfl rfl Tryd.func36 (by kernel_rfl) rfl #[.agg #[.int .u8 r.f0,.int .i64 r.f1]] rfl (by (try simp only [List.map_toArray,List.map_cons,List.map_nil]);first|done|rfl) ?_;(with_reducible refine (PC.out).mono ?_);rintro e w2 ⟨rfl,hb⟩;refine ⟨_,rfl,?_⟩;have HB2:=Aside0.mk (HB.out.trans (SHlower HB.out.size hb));have HX2:=Aside0.mk (blk_below HX.out hb);have HK2:=Aside0.mk (HKa.out.below hb);have z1 : w2.cell? ⟨q,1,none⟩ = some (.int .i64 r.f1):=blk_cell HX2.out 1;have z2 : w2.cell? ⟨q,2,none⟩ = some (.string r.f2):=blk_cell HX2.out 2;have z3 : w2.cell? ⟨q,3,none⟩ = some (.int .i64 r.f3):=blk_cell HX2.out 3;have z4 : w2.cell? ⟨q,4,none⟩ = some (.int .i64 r.f4):=blk_cell HX2.out 4;clear hb PC HX HKa HB y0 y1 y2 y3 y4)|(go_at_call 19;refine (word_calls HK2.out).mono ?_;rintro e w3 ⟨rfl,hw3⟩;replace hw3:=hw3.symm;subst hw3)|(go_at_call 37;refine (Tryd.strings_ContainsFunc_runes 38 #[] (enters_of Tryd.func38 (by kernel_rfl) rfl) (fun c => decide (c < 33) || decide (c > 126)) r.f2 w2 (rune_pred w2)).mono ?_;rw [HBB.out];rintro e w4 ⟨rfl,hb4⟩;have HB4:=Aside0.mk (HB2.out.trans (SHlower HB2.out.size hb4));clear hb4))
                repeat (go_quiet (fail);try go_wp2)
                all_goals (first|(go_ret;exact ⟨rfl,HB4.out⟩)|trace_state)
              | false =>
                go_enter Tryd.func26,Tryd.ntmps26
                go_upto_region 1 with (fail)
                obtain ⟨q,hq⟩ : ∃ q,w.heap.size = q:=⟨_,rfl⟩
                have hx:=HX.out
                rw [hq] at hx ⊢
                clear hq HX
                generalize w.alloc (.cells #[.int .u8 r.f0,.int .i64 r.f1,.string r.f2,.int .i64 r.f3,.int .i64 r.f4] 31) = W at hx HB HKa PC ⊢
                have y0 : W.cell? ⟨q,0,none⟩ = some (.int .u8 r.f0):=blk_cell hx 0
                have y1 : W.cell? ⟨q,1,none⟩ = some (.int .i64 r.f1):=blk_cell hx 1
                have y2 : W.cell? ⟨q,2,none⟩ = some (.string r.f2):=blk_cell hx 2
                have y3 : W.cell? ⟨q,3,none⟩ = some (.int .i64 r.f3):=blk_cell hx 3
                have y4 : W.cell? ⟨q,4,none⟩ = some (.int .i64 r.f4):=blk_cell hx 4
                have HX:=Aside0.mk hx
                clear hx
                go_wp2_with (first|((with_reducible refine gate_callee (f:=36) rfl ?_);refine goesL_ (some 5) rfl rfl Tryd.func36 (by kernel_rfl) rfl #[.agg #[.int .u8 r.f0,.int .i64 r.f1]] rfl (by (try simp only [List.map_toArray,List.map_cons,List.map_nil]);first|done|rfl) ?_;(with_reducible refine (PC.out).mono ?_);rintro e w2 ⟨rfl,hb⟩;refine ⟨_,rfl,?_⟩;have HB2:=Aside0.mk (HB.out.trans (SHlower HB.out.size hb));have HX2:=Aside0.mk (blk_below HX.out hb);have HK2:=Aside0.mk (HKa.out.below hb);have z1 : w2.cell? ⟨q,1,none⟩ = some (.int .i64 r.f1):=blk_cell HX2.out 1;have z2 : w2.cell? ⟨q,2,none⟩ = some (.string r.f2):=blk_cell HX2.out 2;have z3 : w2.cell? ⟨q,3,none⟩ = some (.int .i64 r.f3):=blk_cell HX2.out 3;have z4 : w2.cell? ⟨q,4,none⟩ = some (.int .i64 r.f4):=blk_cell HX2.out 4;clear hb PC HX HKa HB y0 y1 y2 y3 y4)|(go_at_call 19;refine (word_calls HK2.out).mono ?_;rintro e w3 ⟨rfl,hw3⟩;replace hw3:=hw3.symm;subst hw3)|(go_at_call 37;refine (Tryd.strings_ContainsFunc_runes 38 #[] (enters_of Tryd.func38 (by kernel_rfl) rfl) (fun c => decide (c < 33) || decide (c > 126)) r.f2 w2 (rune_pred w2)).mono ?_;rw [HBB.out];rintro e w4 ⟨rfl,hb4⟩;have HB4:=Aside0.mk (HB2.out.trans (SHlower HB2.out.size hb4));clear hb4))
                repeat (go_quiet (fail);try go_wp2)
                all_goals (first|(go_ret;exact ⟨rfl,HB4.out⟩)|trace_state)
end Go.Proofs.YtifigmamaakigaaDoor.V

