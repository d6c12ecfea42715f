import Derived.Test.YtifigmamaakigaaDoorBV7
namespace Go.Proofs.YtifigmamaakigaaDoor.V
open Go Go.RowKit Go.Lib Go.Proofs.YtifigmamaakigaaDoorW.PrintWords Go.Proofs.YtifigmamaakigaaDoorW.PrintLast Go.Proofs.YtifigmamaakigaaDoorW.PrintMore
set_option linter.unusedVariables false
set_option linter.unusedSimpArgs false
def cutF (s : ByteArray) : ByteArray × Bool:=(⟨(Lib.cut s.data.toList [10]).1.toArray⟩,(Lib.cut s.data.toList [10]).2.2)
theorem cutF_le (s : ByteArray) : (cutF s).1.size ≤ s.size ∧ ((cutF s).2 = true → (cutF s).1.size + 1 ≤ s.size):=by
  unfold cutF Lib.cut
  split
  · rename_i h
    have hn : ((Lib.index s.data.toList [10]).toNat : Int) + 1 ≤ (s.data.toList.length : Int):=by
      have:=Lib.index_room s.data.toList [10] h
      simp at this ⊢
      omega
    have hl : s.data.toList.length = s.size:=by simp
    constructor
    · show ((s.data.toList.take _).toArray).size ≤ _
      simp
      omega
    · intro _
      show ((s.data.toList.take _).toArray).size + 1 ≤ _
      simp
      omega
  · constructor
    · show (s.data.toList.toArray).size ≤ _
      simp
    · intro h;cases h
def readRun (s : ByteArray) : Nat → Nat → List RW → List RW × Int × Int
  | 0,_,_ => ([],0,0)
  | k + 1,i,out =>
    if i < s.size then
      (if (cutF (s.extract i s.size)).2 = true ∧ (rowF (cutF (s.extract i s.size)).1).2 = true then
        (if out.length = 16384 then ([],(i : Int),2) else readRun s k (i + (cutF (s.extract i s.size)).1.size + 1) (out ++ [(rowF (cutF (s.extract i s.size)).1).1]))
      else ([],(i : Int),3))
    else (out,0,0)
def readF (s : ByteArray) : List RW × Int × Int:=if s.size > 262144 then ([],0,2) else readRun s (s.size + 1) 0 []
theorem line_calls {w : World} {s : ByteArray} (hG : GV w) (hs : s.size ≤ 262144) :
    Calls Tryd.prog 22 #[.string s,.string ⟨#[10]⟩] w fun e w' => ∃ r : ByteArray,e = .returned (.tuple #[.string (cutF s).1,.string r,.bool (cutF s).2]) ∧ Below w.heap.size w w':=by
  refine (cut_calls (sep:=⟨#[10]⟩) hG (by omega)).mono ?_
  rintro e w' ⟨h,hb⟩
  exact ⟨_,h,hb⟩
set_option maxHeartbeats 4000000 in
set_option maxRecDepth 100000 in
theorem read_calls {w : World} {s : ByteArray} (hG : GV w) :
    Calls Tryd.prog 9 #[.string s] w fun e w' => ∃ v,e = .returned (.tuple #[v,.agg #[.int .i64 (readF s).2.1,.int .i64 (readF s).2.2]]) ∧ Kd.R kR 31 w' w.heap.size (fun _ => True) v (readF s).1 ∧ Below w.heap.size w w':=by
  have hu31:=Tryd.underlying31
  have hu37:=Tryd.underlying37
  have hbw : Below w.heap.size w (w.alloc (.cells #[.int .i64 0,.int .i64 0] 37)):=below_alloc (Below.refl _ _) _
  have hk7 : (w.alloc (.cells #[.int .i64 0,.int .i64 0] 37)).heap[w.heap.size]? = some (.cells #[.int .i64 0,.int .i64 0] 37 (0,0)):=blk_new w _
  by_cases c1 : s.size > 262144
  · have hv : readF s = ([],0,2):=by unfold readF;rw [if_pos c1]
    rw [hv]
    have cb : decide ((s.size : Int) > 262144) = true:=decide_eq_true (by omega)
    have y0 : (w.alloc (.cells #[.int .i64 0,.int .i64 0] 37)).cell? ⟨w.heap.size,0,none⟩ = some (.int .i64 0):=(blk_cell hk7 0).trans rfl
    have y1 : (w.alloc (.cells #[.int .i64 0,.int .i64 0] 37)).cell? ⟨w.heap.size,1,none⟩ = some (.int .i64 0):=(blk_cell hk7 1).trans rfl
    have x0:=blk_frozen hk7 0
    have x1:=blk_frozen hk7 1
    have HK7:=Aside0.mk hk7
    have HBW:=Aside0.mk hbw
    clear hv c1 hG hk7 hbw
    go_enter Tryd.func9,Tryd.ntmps9
    go_wp2
    repeat (go_quiet (fail);try go_wp2)
    have k7e : (w.alloc (.cells #[.int .i64 0,.int .i64 2] 37)).heap[w.heap.size]? = some (.cells #[.int .i64 0,.int .i64 2] 37 (0,0)):=blk_new w _
    have hbe : Below w.heap.size w (w.alloc (.cells #[.int .i64 0,.int .i64 2] 37)):=below_alloc (Below.refl _ _) _
    exact bodyPost_ret (results_tc (u:=2) (p:=3) rfl _ _ w.heap.size 37 #[.int .i64 0,.int .i64 2] (0,0) _ rfl k7e Tryd.underlying37 rfl (by kernel_rfl)) rfl ⟨_,rfl,Kd.R_nil _ _ _ _ _,hbe⟩
  · have hv : readF s = readRun s (s.size + 1) 0 []:=by unfold readF;rw [if_neg c1]
    obtain ⟨RR,hRR⟩ : ∃ RR,readRun s (s.size + 1) 0 [] = RR:=⟨_,rfl⟩
    rw [hv,hRR]
    have cb : decide ((s.size : Int) > 262144) = false:=decide_eq_false (by omega)
    have HS : Aside0 (s.size ≤ 262144):=⟨by omega⟩
    have HRR:=Aside0.mk hRR
    have HK7:=Aside0.mk hk7
    have HBW:=Aside0.mk hbw
    have HG:=Aside0.mk hG
    clear hv c1 hG hk7 hbw hRR
    go_enter Tryd.func9,Tryd.ntmps9
    go_wp2
    repeat (go_quiet (fail);try go_wp2)
    (try simp only [Act.put,List.setIfInBounds_toArray,List.set_cons_zero,List.set_cons_succ])
    go_loopg [4,5] (s.size + 1) (fun kq v4 v5 w' => ∃ (i : Nat) (out : List RW),v5 = .int .i64 i ∧ Aside0 (readRun s kq i out = RR) ∧ Aside0 (i ≤ s.size ∧ s.size < i + kq ∧ out.length ≤ 16384) ∧ Aside0 (Kd.R kR 31 w' w.heap.size (fun _ => True) v4 out) ∧ Aside0 (w'.heap[w.heap.size]? = some (.cells #[.int .i64 0,.int .i64 0] 37 (0,0))) ∧ Aside0 (Below w.heap.size w w'))
    case atStart => exact ⟨0,[],rfl,HRR,⟨⟨by omega,by omega,by simp⟩⟩,⟨Kd.R_nil _ _ _ _ _⟩,HK7,HBW⟩
    case round =>
      clear HRR HK7 HBW
      obtain ⟨i,out,rfl,HRR,HN,HR,HK7,HB⟩:=hrel
      obtain ⟨A9,n9,rfl⟩:=Kd.R_slice HR.out
      cases gk with
      | zero => exact absurd HN.out (by omega)
      | succ k1 =>
        have hh:=HRR.out
        rw [readRun] at hh
        have y0 : wr.cell? ⟨w.heap.size,0,none⟩ = some (.int .i64 0):=(blk_cell HK7.out 0).trans rfl
        have y1 : wr.cell? ⟨w.heap.size,1,none⟩ = some (.int .i64 0):=(blk_cell HK7.out 1).trans rfl
        have x0:=blk_frozen HK7.out 0
        have x1:=blk_frozen HK7.out 1
        by_cases ci : i < s.size
        · rw [if_pos ci] at hh
          have cib : decide ((i : Int) < (s.size : Int)) = true:=decide_eq_true (by omega)
          have p0 : (0 : Int) ≤ (i : Int):=by omega
          have p1 : (i : Int) ≤ (s.size : Int):=by omega
          have hxs : (s.extract i s.size).size = s.size - i:=by rw [ByteArray.size_extract];omega
          have hcl:=cutF_le (s.extract i s.size)
          have LC : Aside0 (∀ W,GV W → Calls Tryd.prog 22 #[.string (s.extract i s.size),.string ⟨#[10]⟩] W fun e w' => ∃ r : ByteArray,e = .returned (.tuple #[.string (cutF (s.extract i s.size)).1,.string r,.bool (cutF (s.extract i s.size)).2]) ∧ Below W.heap.size W w'):=⟨fun W hW => line_calls hW (by have:=HS.out;omega)⟩
          generalize hcut : cutF (s.extract i s.size) = cu at hh hcl LC
          obtain ⟨ln,en⟩:=cu
          dsimp only at hh hcl LC
          rw [hxs] at hcl
          have RC : Aside0 (∀ W,GV W → Calls Tryd.prog 23 #[.string ln] W fun e w' => e = .returned (.tuple #[.agg #[.int .u8 (rowF ln).1.f0,.int .i64 (rowF ln).1.f1,.string (rowF ln).1.f2,.int .i64 (rowF ln).1.f3,.int .i64 (rowF ln).1.f4],.bool (rowF ln).2]) ∧ Below W.heap.size W w'):=⟨fun W hW => row_calls hW (by have:=HS.out;omega)⟩
          generalize hrow : rowF ln = rw_ at hh RC
          obtain ⟨r,ok⟩:=rw_
          dsimp only at hh RC
          have HH:=Aside0.mk hh
          have HCL:=Aside0.mk hcl
          clear hh hcl hcut hrow hxs
          go_upto_region 8 with (first|(go_at_call 22;refine (LC.out _ (HG.out.below HB.out)).mono ?_;rintro e w3 ⟨rst,rfl,hb3⟩;have HB3:=Aside0.mk (HB.out.trans (SHlower HB.out.size hb3));have HR3:=Aside0.mk (Kd.R_below HR.out hb3);have HK3:=Aside0.mk (blk_below HK7.out hb3);clear hb3)|(go_at_call 23;refine (RC.out _ (HG.out.below HB3.out)).mono ?_;rintro e w4 ⟨rfl,hb4⟩;have HB4:=Aside0.mk (HB3.out.trans (SHlower HB3.out.size hb4));have HR4:=Aside0.mk (Kd.R_below HR3.out hb4);have HK4:=Aside0.mk (blk_below HK3.out hb4);clear hb4))
          have k9 : (w4.alloc (.cells #[.int .u8 r.f0,.int .i64 r.f1,.string r.f2,.int .i64 r.f3,.int .i64 r.f4] 31)).heap[w4.heap.size]? = some (.cells #[.int .u8 r.f0,.int .i64 r.f1,.string r.f2,.int .i64 r.f3,.int .i64 r.f4] 31 (0,0)):=blk_new w4 _
          have k7 : (w4.alloc (.cells #[.int .u8 r.f0,.int .i64 r.f1,.string r.f2,.int .i64 r.f3,.int .i64 r.f4] 31)).heap[w.heap.size]? = some (.cells #[.int .i64 0,.int .i64 0] 37 (0,0)):=blk_alloc HK4.out _
          have hr5 : Kd.R kR 31 (w4.alloc (.cells #[.int .u8 r.f0,.int .i64 r.f1,.string r.f2,.int .i64 r.f3,.int .i64 r.f4] 31)) w.heap.size (fun _ => True) (.slice A9 out.length n9) out:=Kd.R_alloc HR4.out _
          have hb5 : Below w.heap.size w (w4.alloc (.cells #[.int .u8 r.f0,.int .i64 r.f1,.string r.f2,.int .i64 r.f3,.int .i64 r.f4] 31)):=below_alloc HB4.out _
          clear HK4 HR4 HB4 HK3 HR3 HB3 LC RC HB HR HK7 y0 y1 x0 x1
          generalize w4.heap.size = g9 at k9 ⊢
          generalize w4.alloc (.cells #[.int .u8 r.f0,.int .i64 r.f1,.string r.f2,.int .i64 r.f3,.int .i64 r.f4] 31) = W5 at k9 k7 hr5 hb5 ⊢
          have y0 : W5.cell? ⟨w.heap.size,0,none⟩ = some (.int .i64 0):=(blk_cell k7 0).trans rfl
          have y1 : W5.cell? ⟨w.heap.size,1,none⟩ = some (.int .i64 0):=(blk_cell k7 1).trans rfl
          have x0:=blk_frozen k7 0
          have x1:=blk_frozen k7 1
          have t0 : W5.cell? ⟨g9,0,none⟩ = some (.int .u8 r.f0):=(blk_cell k9 0).trans rfl
          have t1 : W5.cell? ⟨g9,1,none⟩ = some (.int .i64 r.f1):=(blk_cell k9 1).trans rfl
          have t2 : W5.cell? ⟨g9,2,none⟩ = some (.string r.f2):=(blk_cell k9 2).trans rfl
          have t3 : W5.cell? ⟨g9,3,none⟩ = some (.int .i64 r.f3):=(blk_cell k9 3).trans rfl
          have t4 : W5.cell? ⟨g9,4,none⟩ = some (.int .i64 r.f4):=(blk_cell k9 4).trans rfl
          have HK5:=Aside0.mk k7
          have HR5:=Aside0.mk hr5
          have HB5:=Aside0.mk hb5
          clear k9 k7 hr5 hb5
          have hh:=HH.out
          cases en with
          | false =>
            rw [if_neg (fun h => by cases h.1)] at hh
            subst hh
            go_wp2
            repeat (go_quiet (fail);try go_wp2)
            have k7e:=blk_put (cs:=#[.int .i64 i,.int .i64 0]) (blk_put (cs:=#[.int .i64 0,.int .i64 0]) HK5.out 0 (.int .i64 i) rfl) 1 (.int .i64 3) rfl
            have hbe:=below_set (below_set HB5.out (Nat.le_refl w.heap.size) (j:=0) (v:=.int .i64 i)) (Nat.le_refl w.heap.size) (j:=1) (v:=.int .i64 3)
            exact bodyPost_ret (results_tc (u:=2) (p:=3) rfl _ _ w.heap.size 37 #[.int .i64 i,.int .i64 3] (0,0) _ rfl k7e Tryd.underlying37 rfl (by kernel_rfl)) rfl ⟨_,rfl,Kd.R_nil _ _ _ _ _,hbe⟩
          | true =>
            cases ok with
            | false =>
              rw [if_neg (fun h => by cases h.2)] at hh
              subst hh
              go_wp2
              repeat (go_quiet (fail);try go_wp2)
              have k7e:=blk_put (cs:=#[.int .i64 i,.int .i64 0]) (blk_put (cs:=#[.int .i64 0,.int .i64 0]) HK5.out 0 (.int .i64 i) rfl) 1 (.int .i64 3) rfl
              have hbe:=below_set (below_set HB5.out (Nat.le_refl w.heap.size) (j:=0) (v:=.int .i64 i)) (Nat.le_refl w.heap.size) (j:=1) (v:=.int .i64 3)
              exact bodyPost_ret (results_tc (u:=2) (p:=3) rfl _ _ w.heap.size 37 #[.int .i64 i,.int .i64 3] (0,0) _ rfl k7e Tryd.underlying37 rfl (by kernel_rfl)) rfl ⟨_,rfl,Kd.R_nil _ _ _ _ _,hbe⟩
            | true =>
              rw [if_pos ⟨rfl,rfl⟩] at hh
              by_cases cl : out.length = 16384
              · rw [if_pos cl] at hh
                subst hh
                have clb : ((out.length : Int) == 16384) = true:=beq_iff_eq.mpr (by omega)
                go_wp2
                repeat (go_quiet (fail);try go_wp2)
                have k7e:=blk_put (cs:=#[.int .i64 i,.int .i64 0]) (blk_put (cs:=#[.int .i64 0,.int .i64 0]) HK5.out 0 (.int .i64 i) rfl) 1 (.int .i64 2) rfl
                have hbe:=below_set (below_set HB5.out (Nat.le_refl w.heap.size) (j:=0) (v:=.int .i64 i)) (Nat.le_refl w.heap.size) (j:=1) (v:=.int .i64 2)
                exact bodyPost_ret (results_tc (u:=2) (p:=3) rfl _ _ w.heap.size 37 #[.int .i64 i,.int .i64 2] (0,0) _ rfl k7e Tryd.underlying37 rfl (by kernel_rfl)) rfl ⟨_,rfl,Kd.R_nil _ _ _ _ _,hbe⟩
              · rw [if_neg cl] at hh
                clear HH
                have HH:=Aside0.mk hh
                clear hh
                have clb : ((out.length : Int) == 16384) = false:=beq_eq_false_iff_ne.mpr (by omega)
                have clc : ¬ (out.length : Int) = 16384:=by omega
                have hln : i + ln.size + 1 ≤ s.size:=by have:=HCL.out.2 rfl;omega
                have hw1 : IntKind.i64.wrap ((ln.size : Int) + 1) = (ln.size : Int) + 1:=by have:=HS.out;rw [IntKind.wrap_i64];omega
                have hw2 : IntKind.i64.wrap ((i : Int) + ((ln.size : Int) + 1)) = ((i + ln.size + 1 : Nat) : Int):=by have:=HS.out;rw [IntKind.wrap_i64];omega
                have HLN:=Aside0.mk hln
                clear hln
                go_wp2_with (first|(at_builtin;refine Kd.R_append kR (w0:=w) w.heap.size rfl (.tmp 45) (.tmp 47) 22 31 (.agg #[(.int .u8 0),(.int .i64 0),(.string ⟨#[]⟩),(.int .i64 0),(.int .i64 0)]) 48 rfl Tryd.underlying22 info31 rfl (by decide) (by decide) (.slice A9 out.length n9) out r [.int .u8 r.f0,.int .i64 r.f1,.string r.f2,.int .i64 r.f3,.int .i64 r.f4] (fun _ => True) (fun k => some k ≠ (Value.slice A9 out.length n9).ownBlock) rfl rfl (kR_mkM _ _ _ _) (fun _ h => ⟨trivial,h⟩) (fun _ _ => trivial) HR5.out HB5.out HB5.out.size (by have:=HN.out;omega) ?_;intro v6 w6 hr6 hb6 hg6 hat6)|go_in)
                repeat (go_quiet (fail);try go_wp2)
                go_roundg k1
                case measure => omega
                case rel => exact ⟨i + ln.size + 1,out ++ [r],rfl,HH,⟨by have h1:=HN.out;have h2:=HLN.out;refine ⟨by omega,by omega,?_⟩;rw [List.length_append,List.length_singleton];omega⟩,⟨hr6⟩,⟨(hg6.block _ (Array.getElem?_eq_some_iff.1 HK5.out).1 (Kd.R_ne HR5.out HK5.out (by decide))).trans HK5.out⟩,⟨hb6⟩⟩
        · rw [if_neg ci] at hh
          subst hh
          have hi : i = s.size:=by have:=HN.out;omega
          subst hi
          clear ci
          go_wp2
          repeat (go_quiet (fail);try go_wp2)
          have k7e:=blk_put (cs:=#[.int .i64 0,.int .i64 0]) (blk_put (cs:=#[.int .i64 0,.int .i64 0]) HK7.out 0 (.int .i64 0) rfl) 1 (.int .i64 0) rfl
          have hbe:=below_set (below_set HB.out (Nat.le_refl w.heap.size) (j:=0) (v:=.int .i64 0)) (Nat.le_refl w.heap.size) (j:=1) (v:=.int .i64 0)
          have hre:=Kd.R_set (Kd.R_set HR.out HK7.out (by decide) 0 (.int .i64 0)) (blk_put (cs:=#[.int .i64 0,.int .i64 0]) HK7.out 0 (.int .i64 0) rfl) (by decide) 1 (.int .i64 0)
          exact bodyPost_ret (results_tc (u:=2) (p:=3) rfl _ _ w.heap.size 37 #[.int .i64 0,.int .i64 0] (0,0) _ rfl k7e Tryd.underlying37 rfl (by kernel_rfl)) rfl ⟨_,rfl,hre,hbe⟩
end Go.Proofs.YtifigmamaakigaaDoor.V

