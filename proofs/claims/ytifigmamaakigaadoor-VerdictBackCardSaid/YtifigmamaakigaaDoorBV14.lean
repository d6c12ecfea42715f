import Derived.Test.YtifigmamaakigaaDoorBV13
namespace Go.Proofs.YtifigmamaakigaaDoor.V
open Go Go.RowKit Go.Lib Go.Proofs.YtifigmamaakigaaDoorW.PrintWords Go.Proofs.YtifigmamaakigaaDoorW.PrintLast Go.Proofs.YtifigmamaakigaaDoorW.PrintMore
set_option linter.unusedVariables false
set_option linter.unusedSimpArgs false
attribute [local go_sem high] eqA29 eqA31 eqA37
theorem read_good {w : World} {s : ByteArray} {xs : List RW} (hG : GV w) (h : readF s = (xs,0,0)) : Calls Tryd.prog 9 #[.string s] w fun e w' => ∃ B d,e = .returned (.tuple #[.slice B xs.length d,.agg #[.int .i64 0,.int .i64 0]]) ∧ Kd.C kR w' B xs.length xs ∧ Below w.heap.size w w':=by
  have hr:=read_calls (s:=s) hG
  rw [h] at hr
  refine Calls.mono hr ?_
  rintro e w' ⟨v,rfl,hr,hb⟩
  obtain ⟨B,d,rfl,hle,hC⟩:=Kd.R_reads hr
  exact ⟨B,d,rfl,hC,hb⟩
theorem table_to {w : World} {A : Option Addr} {c : Nat} {xs : List RW} {t : ByteArray} (ht : tableF xs = (t,0)) (hG : GV w) (h : Kd.C kR w A xs.length xs) : Calls Tryd.prog 8 #[.slice A xs.length c] w fun e w' => e = .returned (.tuple #[.string t,.int .i64 0]) ∧ Below w.heap.size w w':=by
  have hr:=table_calls (c:=c) hG h
  rw [ht] at hr
  exact hr
theorem read_badc {w : World} {s : ByteArray} (hG : GV w) (h : (readF s).1 = []) : Calls Tryd.prog 9 #[.string s] w fun e w' => ∃ B d,e = .returned (.tuple #[.slice B 0 d,.agg #[.int .i64 (readF s).2.1,.int .i64 (readF s).2.2]]) ∧ Below w.heap.size w w':=by
  have hr:=read_calls (s:=s) hG
  rw [h] at hr
  refine Calls.mono hr ?_
  rintro e w' ⟨v,rfl,hr,hb⟩
  obtain ⟨B,d,rfl,hle,hC⟩:=Kd.R_reads hr
  exact ⟨B,d,rfl,hb⟩
set_option maxHeartbeats 8000000 in
set_option maxRecDepth 100000 in
theorem back_calls {w : World} {A : Option Addr} {c : Nat} {xs : List RW} {s : ByteArray} (hG : GV w) (h : Kd.C kR w A xs.length xs) :
    Calls Tryd.prog 4 #[.slice A xs.length c,.string s] w fun e w' => e = .returned (.bool true) ∧ Below w.heap.size w w':=by
  have hu31:=Tryd.underlying31
  have hu37:=Tryd.underlying37
  have HG:=Aside0.mk hG
  have HX:=Aside0.mk h
  have TC : Aside0 (∀ W,GV W → Kd.C kR W A xs.length xs → Calls Tryd.prog 8 #[.slice A xs.length c] W fun e w' => e = .returned (.tuple #[.string (tableF xs).1,.int .i64 (tableF xs).2]) ∧ Below W.heap.size W w'):=⟨fun W hW hC => table_calls hW hC⟩
  have SEC : Aside0 ((∃ x2 : List RW,readF s = (x2,0,0) ∧ tableF x2 = (s,0)) ∨ ((readF s).1 = [] ∧ (readF s).2.2 ≠ 0)):=⟨by
    rcases readF_bad s with h|h
    · exact .inl ⟨(readF s).1,Prod.ext rfl h,read_told (Prod.ext rfl h)⟩
    · exact .inr h⟩
  have FST : Aside0 (((tableF xs).2 ≠ 0 ∧ (tableF xs).1 = ⟨#[]⟩) ∨ (∃ t,tableF xs = (t,0) ∧ readF t = (xs,0,0))):=⟨tableF_bad xs⟩
  clear h hG
  rcases FST.out with ⟨b1,b2⟩|⟨t,ht,hrt⟩
  · rw [b2] at TC
    generalize (tableF xs).2 = te at TC b1
    have cb : (te == 0) = false:=by simpa using b1
    clear FST b1 b2
    rcases SEC.out with ⟨x2,hr2,ht2⟩|⟨b3,b4⟩
    · clear SEC
      have HR2:=Aside0.mk hr2
      have HT2:=Aside0.mk ht2
      clear hr2 ht2
      go_enter Tryd.func4,Tryd.ntmps4
      go_upto_region 10 with (first|(go_at_call 5;refine (works_calls HG.out).mono ?_;rintro e w1 ⟨rfl,hb1⟩;have HB1:=Aside0.mk hb1;clear hb1)|(go_at_call 8;refine (TC.out _ (HG.out.below HB1.out) (Kd.C_below HX.out HB1.out)).mono ?_;rintro e w2 ⟨rfl,hb2⟩;have HB2:=Aside0.mk (HB1.out.trans (SHlower HB1.out.size hb2));clear hb2))
      have HBm:=HB2
      clear HB1 HB2 TC
      go_upto_region 11 with (go_at_call 9;refine (read_good (HG.out.below HBm.out) HR2.out).mono ?_;rintro e w6 ⟨B6,d6,rfl,hc6,hb6⟩;have HC6:=Aside0.mk hc6;have HB6:=Aside0.mk (HBm.out.trans (SHlower HBm.out.size hb6));clear hc6 hb6)
      have f6 : (w6.alloc (.cells #[.int .i64 0,.int .i64 0] 37)).heap[w6.heap.size]? = some (.cells #[.int .i64 0,.int .i64 0] 37 (0,0)):=blk_new w6 _
      have b6:=below_alloc (HB6.out) (.cells #[.int .i64 0,.int .i64 0] 37)
      have c6:=Kd.C_alloc HC6.out (.cells #[.int .i64 0,.int .i64 0] 37)
      generalize w6.heap.size = g6 at f6 ⊢
      generalize w6.alloc (.cells #[.int .i64 0,.int .i64 0] 37) = v6 at f6 b6 c6 ⊢
      have y60 : v6.cell? ⟨g6,0,none⟩ = some (.int .i64 0):=(blk_cell f6 0).trans rfl
      have y61 : v6.cell? ⟨g6,1,none⟩ = some (.int .i64 0):=(blk_cell f6 1).trans rfl
      have HV6:=Aside0.mk b6
      clear f6 b6
      have HC7:=Aside0.mk c6
      clear c6 HC6
      go_wp2_with (first|(go_at_call 8;refine (table_to HT2.out (HG.out.below HV6.out) HC7.out).mono ?_;rintro e w8 ⟨rfl,hb8⟩;have HB8:=Aside0.mk (HV6.out.trans (SHlower HV6.out.size hb8));clear hb8)|go_in)
      repeat (go_quiet (fail);try go_wp2)
      go_ret
      exact ⟨rfl,HB8.out⟩
    · clear SEC
      have RB : Aside0 (∀ W,GV W → Calls Tryd.prog 9 #[.string s] W fun e w' => ∃ B d,e = .returned (.tuple #[.slice B 0 d,.agg #[.int .i64 (readF s).2.1,.int .i64 (readF s).2.2]]) ∧ Below W.heap.size W w'):=⟨fun W hW => read_badc hW b3⟩
      generalize (readF s).2.1 = ra at RB
      generalize (readF s).2.2 = re at RB b4
      have cr : (re == 0) = false:=by simpa using b4
      clear b3 b4
      go_enter Tryd.func4,Tryd.ntmps4
      go_upto_region 10 with (first|(go_at_call 5;refine (works_calls HG.out).mono ?_;rintro e w1 ⟨rfl,hb1⟩;have HB1:=Aside0.mk hb1;clear hb1)|(go_at_call 8;refine (TC.out _ (HG.out.below HB1.out) (Kd.C_below HX.out HB1.out)).mono ?_;rintro e w2 ⟨rfl,hb2⟩;have HB2:=Aside0.mk (HB1.out.trans (SHlower HB1.out.size hb2));clear hb2))
      have HBm:=HB2
      clear HB1 HB2 TC
      go_upto_region 11 with (go_at_call 9;refine (RB.out _ (HG.out.below HBm.out)).mono ?_;rintro e w6 ⟨B6,d6,rfl,hb6⟩;have HB6:=Aside0.mk (HBm.out.trans (SHlower HBm.out.size hb6));clear hb6)
      have f6 : (w6.alloc (.cells #[.int .i64 ra,.int .i64 re] 37)).heap[w6.heap.size]? = some (.cells #[.int .i64 ra,.int .i64 re] 37 (0,0)):=blk_new w6 _
      have b6:=below_alloc (HB6.out) (.cells #[.int .i64 ra,.int .i64 re] 37)
      generalize w6.heap.size = g6 at f6 ⊢
      generalize w6.alloc (.cells #[.int .i64 ra,.int .i64 re] 37) = v6 at f6 b6  ⊢
      have y60 : v6.cell? ⟨g6,0,none⟩ = some (.int .i64 ra):=(blk_cell f6 0).trans rfl
      have y61 : v6.cell? ⟨g6,1,none⟩ = some (.int .i64 re):=(blk_cell f6 1).trans rfl
      have HV6:=Aside0.mk b6
      clear f6 b6
      go_wp2
      repeat (go_quiet (fail);try go_wp2)
      go_ret
      exact ⟨rfl,HV6.out⟩
  · rw [ht] at TC
    have HRT:=Aside0.mk hrt
    clear FST ht hrt
    rcases SEC.out with ⟨x2,hr2,ht2⟩|⟨b3,b4⟩
    · clear SEC
      have HR2:=Aside0.mk hr2
      have HT2:=Aside0.mk ht2
      clear hr2 ht2
      go_enter Tryd.func4,Tryd.ntmps4
      go_upto_region 6 with (first|(go_at_call 5;refine (works_calls HG.out).mono ?_;rintro e w1 ⟨rfl,hb1⟩;have HB1:=Aside0.mk hb1;clear hb1)|(go_at_call 8;refine (TC.out _ (HG.out.below HB1.out) (Kd.C_below HX.out HB1.out)).mono ?_;rintro e w2 ⟨rfl,hb2⟩;have HB2:=Aside0.mk (HB1.out.trans (SHlower HB1.out.size hb2));clear hb2)|(go_at_call 9;refine (read_good (HG.out.below HB2.out) HRT.out).mono ?_;rintro e w3 ⟨B3,d3,rfl,hc3,hb3⟩;have HC3:=Aside0.mk hc3;have HB3:=Aside0.mk (HB2.out.trans (SHlower HB2.out.size hb3));clear hc3 hb3))
      have f3 : (w3.alloc (.cells #[.int .i64 0,.int .i64 0] 37)).heap[w3.heap.size]? = some (.cells #[.int .i64 0,.int .i64 0] 37 (0,0)):=blk_new w3 _
      have b3:=below_alloc (HB3.out) (.cells #[.int .i64 0,.int .i64 0] 37)
      have c3:=Kd.C_alloc HC3.out (.cells #[.int .i64 0,.int .i64 0] 37)
      generalize w3.heap.size = g3 at f3 ⊢
      generalize w3.alloc (.cells #[.int .i64 0,.int .i64 0] 37) = v3 at f3 b3 c3 ⊢
      have y30 : v3.cell? ⟨g3,0,none⟩ = some (.int .i64 0):=(blk_cell f3 0).trans rfl
      have y31 : v3.cell? ⟨g3,1,none⟩ = some (.int .i64 0):=(blk_cell f3 1).trans rfl
      have HV3:=Aside0.mk b3
      clear f3 b3
      have HC4:=Aside0.mk c3
      have HX4:=Aside0.mk (Kd.C_below HX.out HV3.out)
      clear c3 HC3
      go_upto_region 10 with (go_at_call 7;refine (same_calls HC4.out HX4.out).mono ?_;rintro e w5 ⟨rfl,hb5⟩;have HBm:=Aside0.mk (HV3.out.trans (SHlower HV3.out.size hb5));clear hb5)
      clear HB1 HB2 HB3 TC HC4 HX4 HV3
      go_upto_region 11 with (go_at_call 9;refine (read_good (HG.out.below HBm.out) HR2.out).mono ?_;rintro e w6 ⟨B6,d6,rfl,hc6,hb6⟩;have HC6:=Aside0.mk hc6;have HB6:=Aside0.mk (HBm.out.trans (SHlower HBm.out.size hb6));clear hc6 hb6)
      have f6 : (w6.alloc (.cells #[.int .i64 0,.int .i64 0] 37)).heap[w6.heap.size]? = some (.cells #[.int .i64 0,.int .i64 0] 37 (0,0)):=blk_new w6 _
      have b6:=below_alloc (HB6.out) (.cells #[.int .i64 0,.int .i64 0] 37)
      have c6:=Kd.C_alloc HC6.out (.cells #[.int .i64 0,.int .i64 0] 37)
      generalize w6.heap.size = g6 at f6 ⊢
      generalize w6.alloc (.cells #[.int .i64 0,.int .i64 0] 37) = v6 at f6 b6 c6 ⊢
      have y60 : v6.cell? ⟨g6,0,none⟩ = some (.int .i64 0):=(blk_cell f6 0).trans rfl
      have y61 : v6.cell? ⟨g6,1,none⟩ = some (.int .i64 0):=(blk_cell f6 1).trans rfl
      have HV6:=Aside0.mk b6
      clear f6 b6
      have HC7:=Aside0.mk c6
      clear c6 HC6
      go_wp2_with (first|(go_at_call 8;refine (table_to HT2.out (HG.out.below HV6.out) HC7.out).mono ?_;rintro e w8 ⟨rfl,hb8⟩;have HB8:=Aside0.mk (HV6.out.trans (SHlower HV6.out.size hb8));clear hb8)|go_in)
      repeat (go_quiet (fail);try go_wp2)
      go_ret
      exact ⟨rfl,HB8.out⟩
    · clear SEC
      have RB : Aside0 (∀ W,GV W → Calls Tryd.prog 9 #[.string s] W fun e w' => ∃ B d,e = .returned (.tuple #[.slice B 0 d,.agg #[.int .i64 (readF s).2.1,.int .i64 (readF s).2.2]]) ∧ Below W.heap.size W w'):=⟨fun W hW => read_badc hW b3⟩
      generalize (readF s).2.1 = ra at RB
      generalize (readF s).2.2 = re at RB b4
      have cr : (re == 0) = false:=by simpa using b4
      clear b3 b4
      go_enter Tryd.func4,Tryd.ntmps4
      go_upto_region 6 with (first|(go_at_call 5;refine (works_calls HG.out).mono ?_;rintro e w1 ⟨rfl,hb1⟩;have HB1:=Aside0.mk hb1;clear hb1)|(go_at_call 8;refine (TC.out _ (HG.out.below HB1.out) (Kd.C_below HX.out HB1.out)).mono ?_;rintro e w2 ⟨rfl,hb2⟩;have HB2:=Aside0.mk (HB1.out.trans (SHlower HB1.out.size hb2));clear hb2)|(go_at_call 9;refine (read_good (HG.out.below HB2.out) HRT.out).mono ?_;rintro e w3 ⟨B3,d3,rfl,hc3,hb3⟩;have HC3:=Aside0.mk hc3;have HB3:=Aside0.mk (HB2.out.trans (SHlower HB2.out.size hb3));clear hc3 hb3))
      have f3 : (w3.alloc (.cells #[.int .i64 0,.int .i64 0] 37)).heap[w3.heap.size]? = some (.cells #[.int .i64 0,.int .i64 0] 37 (0,0)):=blk_new w3 _
      have b3:=below_alloc (HB3.out) (.cells #[.int .i64 0,.int .i64 0] 37)
      have c3:=Kd.C_alloc HC3.out (.cells #[.int .i64 0,.int .i64 0] 37)
      generalize w3.heap.size = g3 at f3 ⊢
      generalize w3.alloc (.cells #[.int .i64 0,.int .i64 0] 37) = v3 at f3 b3 c3 ⊢
      have y30 : v3.cell? ⟨g3,0,none⟩ = some (.int .i64 0):=(blk_cell f3 0).trans rfl
      have y31 : v3.cell? ⟨g3,1,none⟩ = some (.int .i64 0):=(blk_cell f3 1).trans rfl
      have HV3:=Aside0.mk b3
      clear f3 b3
      have HC4:=Aside0.mk c3
      have HX4:=Aside0.mk (Kd.C_below HX.out HV3.out)
      clear c3 HC3
      go_upto_region 10 with (go_at_call 7;refine (same_calls HC4.out HX4.out).mono ?_;rintro e w5 ⟨rfl,hb5⟩;have HBm:=Aside0.mk (HV3.out.trans (SHlower HV3.out.size hb5));clear hb5)
      clear HB1 HB2 HB3 TC HC4 HX4 HV3
      go_upto_region 11 with (go_at_call 9;refine (RB.out _ (HG.out.below HBm.out)).mono ?_;rintro e w6 ⟨B6,d6,rfl,hb6⟩;have HB6:=Aside0.mk (HBm.out.trans (SHlower HBm.out.size hb6));clear hb6)
      have f6 : (w6.alloc (.cells #[.int .i64 ra,.int .i64 re] 37)).heap[w6.heap.size]? = some (.cells #[.int .i64 ra,.int .i64 re] 37 (0,0)):=blk_new w6 _
      have b6:=below_alloc (HB6.out) (.cells #[.int .i64 ra,.int .i64 re] 37)
      generalize w6.heap.size = g6 at f6 ⊢
      generalize w6.alloc (.cells #[.int .i64 ra,.int .i64 re] 37) = v6 at f6 b6  ⊢
      have y60 : v6.cell? ⟨g6,0,none⟩ = some (.int .i64 ra):=(blk_cell f6 0).trans rfl
      have y61 : v6.cell? ⟨g6,1,none⟩ = some (.int .i64 re):=(blk_cell f6 1).trans rfl
      have HV6:=Aside0.mk b6
      clear f6 b6
      go_wp2
      repeat (go_quiet (fail);try go_wp2)
      go_ret
      exact ⟨rfl,HV6.out⟩
end Go.Proofs.YtifigmamaakigaaDoor.V

