import Derived.Test.YtojepjkpnponoaaDoorKStim8
import Derived.Test.YtojepjkpnponoaaDoorKGText
set_option linter.unusedSimpArgs false
namespace Go.Proofs.YtojepjkpnponoaaDoor.Stim
open Go Go.RowKit Go.Proofs.YtojepjkpnponoaaDoorW.PrintWords Go.Proofs.YtojepjkpnponoaaDoorW.PrintLast Go.Proofs.YtojepjkpnponoaaDoorW.PrintMore
set_option linter.unusedVariables false
def trestleref12_Print.f (a0_0 : Int) (l0_1 : List (S83)) (l0_2 : List Bool) (l0_3 : List (List Bool)) (a0_4 : Int) (a1 : Int) (a2 : Int) : Option (ByteArray × Int) :=
  if l0_1.length < 140737488355328 ∧ l0_2.length < 140737488355328 ∧ l0_3.length < 140737488355328 then
    (if checkSpec a0_0 l0_1 l0_2 l0_3 a0_4 a1 a2 ≠ 0 then some (⟨#[]⟩,checkSpec a0_0 l0_1 l0_2 l0_3 a0_4 a1 a2)
    else if textOK a0_0 l0_1 l0_2 l0_3 a0_4 = true then
      (if (witBytes a0_0 l0_1 l0_2 l0_3 a0_4).length > 262144 then some (⟨#[]⟩,2) else some (⟨(witBytes a0_0 l0_1 l0_2 l0_3 a0_4).toArray⟩,0))
    else none)
  else none
theorem OwnT.string {w : World} {base : Nat} {v : Value} {l : List UInt8} (h : OwnT w base v l) : (convert 70 9 v).run Tryd.prog w = .ok (.string ⟨l.toArray⟩) w:=by
  obtain ⟨g,cap,rfl,hc⟩:=h.cells
  have hr:=run_convert_bytes_arg (P:=Tryd.prog) (w:=w) 70 5 Tryd.underlying70 Tryd.underlying5 g 0 l.length cap (l.map fun b => (b.toNat : Int)) (by simp) (fun i hi => by
    have:=hc i (.int .u8 ((l[i].toNat : Nat) : Int)) (by simp [Lib.byteCells,hi])
    rw [show (⟨g,0,none⟩ : Addr).add i = ⟨g,0 + i,none⟩ by unfold Addr.add;split <;> simp_all] at this
    rw [this]
    simp [List.getD,hi]) 9 Tryd.underlying9
  have hs : strOfNums (l.map fun b => (b.toNat : Int)) = ⟨l.toArray⟩:=by
    apply ByteArray.ext
    apply Array.ext'
    rw [strOfNums_data,List.map_map]
    conv => rhs;rw [← List.map_id l]
    apply List.map_congr_left
    intro b _
    simp
  rw [hr,hs]
set_option maxHeartbeats 4000000 in
set_option maxRecDepth 100000 in
theorem trestleref12_Print.calls (a0_0 : Int) (A0_1 : Option Addr) (c0_1 : Nat) (l0_1 : List (S83)) (A0_2 : Option Addr) (c0_2 : Nat) (l0_2 : List Bool) (A0_3 : Option Addr) (c0_3 : Nat) (l0_3 : List (List Bool)) (a0_4 : Int) (a1 : Int) (a2 : Int) (r1 : ByteArray) (r2 : Int) (w : World) (hr0_1 : Kd.C k83 w A0_1 l0_1.length l0_1) (hc0_1 : l0_1.length ≤ c0_1) (hr0_2 : Kd.C Kd.bool w A0_2 l0_2.length l0_2) (hc0_2 : l0_2.length ≤ c0_2) (hr0_3 : Kd.C (Kd.slice 4 Kd.bool) w A0_3 l0_3.length l0_3) (hc0_3 : l0_3.length ≤ c0_3) (h : trestleref12_Print.f a0_0 l0_1 l0_2 l0_3 a0_4 a1 a2 = some (r1,r2)) :
    Calls Tryd.prog 14 #[.agg #[.int .i64 a0_0,.slice A0_1 l0_1.length c0_1,.slice A0_2 l0_2.length c0_2,.slice A0_3 l0_3.length c0_3,.int .i64 a0_4],.int .i64 a1,.int .i64 a2] w fun e w' => e = .returned (.tuple #[.string r1,.int .i64 r2]) ∧ Below w.heap.size w w':=by
  have hu28:=Tryd.underlying28
  have hu26:=Tryd.underlying26
  have HR1:=A0_.mk hr0_1
  have HR2:=A0_.mk hr0_2
  have HR3:=A0_.mk hr0_3
  have HC1:=A0_.mk hc0_1
  have HC2:=A0_.mk hc0_2
  have HC3:=A0_.mk hc0_3
  clear hr0_1 hr0_2 hr0_3 hc0_1 hc0_2 hc0_3
  unfold trestleref12_Print.f at h
  have hbd : l0_1.length < 140737488355328 ∧ l0_2.length < 140737488355328 ∧ l0_3.length < 140737488355328:=by
    refine Classical.byContradiction fun hn => ?_
    rw [if_neg hn] at h
    cases h
  rw [if_pos hbd] at h
  obtain ⟨K_,hK_⟩:=ref_check_ev a0_0 l0_1 l0_2 l0_3 a0_4 a1 a2 hbd.1 hbd.2.2
  have he:=hK_ K_ (Nat.le_refl _)
  clear hK_ hbd
  generalize checkSpec a0_0 l0_1 l0_2 l0_3 a0_4 a1 a2 = e at he h
  dsimp only at he
  have hk0:=blk_new w (.cells #[.int .i64 a0_0,.slice A0_1 l0_1.length c0_1,.slice A0_2 l0_2.length c0_2,.slice A0_3 l0_3.length c0_3,.int .i64 a0_4] 28)
  have hb0 : Below w.heap.size w (w.alloc (.cells #[.int .i64 a0_0,.slice A0_1 l0_1.length c0_1,.slice A0_2 l0_2.length c0_2,.slice A0_3 l0_3.length c0_3,.int .i64 a0_4] 28)):=eA_ (Below.refl _ _) _
  have HE:=A0_.mk he
  have HK0:=A0_.mk hk0
  have HB0:=A0_.mk hb0
  clear he hk0 hb0
  go_enter Tryd.func14,Tryd.ntmps14
  go_upto_region 2 with (first|((with_reducible refine gate_callee (f:=16) rfl ?_);refine goesL_ (some 13) rfl rfl Tryd.func16 (by kernel_rfl) rfl #[.agg #[.int .i64 a0_0,.slice A0_1 l0_1.length c0_1,.slice A0_2 l0_2.length c0_2,.slice A0_3 l0_3.length c0_3,.int .i64 a0_4],.int .i64 a1,.int .i64 a2] rfl (by (try simp only [List.map_toArray,List.map_cons,List.map_nil]);first|done|rfl) ?_;(with_reducible refine (trestleref12_Check.calls K_ a0_0 A0_1 c0_1 l0_1 A0_2 c0_2 l0_2 A0_3 c0_3 l0_3 a0_4 a1 a2 e _ (Kd.C_below HR1.out HB0.out) HC1.out (Kd.C_below HR2.out HB0.out) HC2.out (Kd.C_below HR3.out HB0.out) HC3.out HE.out).mono ?_);rintro e_ w1 ⟨rfl,hb⟩;have n0_:=A0_.mk (blk_below HK0.out hb);have n1_:=A0_.mk (HB0.out.trans (hb.mono HB0.out.size));clear HK0 HB0 HE hb;have HK0:=n0_;have HB0:=n1_;clear n0_ n1_;have s0 : w1.cell? ⟨w.heap.size,0,none⟩ = some (.int .i64 a0_0):=(bC_ HK0.out 0).trans rfl;have s1 : w1.cell? ⟨w.heap.size,1,none⟩ = some (.slice A0_1 l0_1.length c0_1):=(bC_ HK0.out 1).trans rfl;have s2 : w1.cell? ⟨w.heap.size,2,none⟩ = some (.slice A0_2 l0_2.length c0_2):=(bC_ HK0.out 2).trans rfl;have s3 : w1.cell? ⟨w.heap.size,3,none⟩ = some (.slice A0_3 l0_3.length c0_3):=(bC_ HK0.out 3).trans rfl;have s4 : w1.cell? ⟨w.heap.size,4,none⟩ = some (.int .i64 a0_4):=(bC_ HK0.out 4).trans rfl;refine ⟨_,rfl,?_⟩))
  repeat (go_quiet (fail);try go_wp2)
  by_cases c1 : e = 0
  · subst c1
    rw [if_neg (by simp)] at h
    split at h
    · rename_i hok
      have HH:=A0_.mk h
      have HOK:=A0_.mk hok
      clear h hok
      go_upto_region 5 with (first|((with_reducible refine gate_callee (f:=39) rfl ?_);refine goesL_ (some 18) rfl rfl Tryd.func39 (by kernel_rfl) rfl #[.agg #[.int .i64 a0_0,.slice A0_1 l0_1.length c0_1,.slice A0_2 l0_2.length c0_2,.slice A0_3 l0_3.length c0_3,.int .i64 a0_4]] rfl (by (try simp only [List.map_toArray,List.map_cons,List.map_nil]);first|done|rfl) ?_;(with_reducible refine (trestleref12_text_calls a0_0 A0_1 c0_1 l0_1 A0_2 c0_2 l0_2 A0_3 c0_3 l0_3 a0_4 _ (Kd.C_below HR1.out HB0.out) HC1.out (Kd.C_below HR2.out HB0.out) HC2.out (Kd.C_below HR3.out HB0.out) HC3.out HOK.out).mono ?_);rintro e_ w2 ⟨v2,rfl,ho,hb⟩;have HO:=A0_.mk ho;have n1_:=A0_.mk (HB0.out.trans (hb.mono HB0.out.size));clear HK0 HB0 hb ho;have HB0:=n1_;clear n1_;obtain ⟨g_,cap_,rfl,_⟩:=HO.out.cells;have hcv:=HO.out.string;refine ⟨_,rfl,?_⟩))
      (try simp only [Act.put,List.setIfInBounds_toArray,List.set_cons_zero,List.set_cons_succ])
      have hh:=HH.out
      by_cases big : (witBytes a0_0 l0_1 l0_2 l0_3 a0_4).length > 262144
      · rw [if_pos big] at hh
        simp only [Option.some.injEq,Prod.mk.injEq] at hh
        obtain ⟨rfl,rfl⟩:=hh
        have bigb : decide (((witBytes a0_0 l0_1 l0_2 l0_3 a0_4).length : Int) > 262144) = true:=decide_eq_true (by omega)
        have bigc : decide (262144 < (witBytes a0_0 l0_1 l0_2 l0_3 a0_4).length) = true:=decide_eq_true big
        clear HH
        go_wp2
        repeat (go_quiet (fail);try go_wp2)
        go_ret2
        exact ⟨rfl,HB0.out⟩
      · rw [if_neg big] at hh
        simp only [Option.some.injEq,Prod.mk.injEq] at hh
        obtain ⟨rfl,rfl⟩:=hh
        have bigb : decide (((witBytes a0_0 l0_1 l0_2 l0_3 a0_4).length : Int) > 262144) = false:=decide_eq_false (by omega)
        have bigc : decide (262144 < (witBytes a0_0 l0_1 l0_2 l0_3 a0_4).length) = false:=decide_eq_false big
        clear HH
        go_wp2
        repeat (go_quiet (fail);try go_wp2)
        go_ret2
        exact ⟨rfl,HB0.out⟩
    · cases h
  · rw [if_pos c1] at h
    simp only [Option.some.injEq,Prod.mk.injEq] at h
    obtain ⟨rfl,rfl⟩:=h
    have c1b : (e == 0) = false:=beq_eq_false_iff_ne.mpr c1
    have c1c : (e != 0) = true:=bne_iff_ne.mpr c1
    go_wp2
    repeat (go_quiet (fail);try go_wp2)
    go_ret2
    exact ⟨rfl,HB0.out⟩
end Go.Proofs.YtojepjkpnponoaaDoor.Stim

