import Derived.Test.YtdmngdohlobogaaGreatDoorYAsc1
import Derived.Test.YtdmngdohlobogaaGreatDoorYAsc2
import Derived.IntWalk
import Derived.Test.YtdmngdohlobogaaGreatDoorYAHeadW
section
namespace Go.Proofs.YtdmngdohlobogaaGreatDoor.Asc
open Go Go.RowKit Go.Proofs.YtdmngdohlobogaaGreatDoorW.PrintWords Go.Proofs.YtdmngdohlobogaaGreatDoorW.PrintLast Go.Proofs.YtdmngdohlobogaaGreatDoorW.PrintMore
set_option linter.unusedVariables false
set_option linter.unusedSimpArgs false
theorem eqA108 (d : Nat) (w : World) (x0 y0 : Int) (x1 y1 : Int) (x2 y2 : Int) :
  (Op.equalIn (d + 2) 61 (.agg #[.int .i64 x0,.int .i64 x1,.int .i64 x2]) (.agg #[.int .i64 y0,.int .i64 y1,.int .i64 y2])).run Tryz.prog w = .ok (x0 == y0 && (x1 == y1 && (x2 == y2))) w:=by
 refine eqA_of Tryz.underlying61 (by kernel_rfl) ?_
 refine eqf_cons (by rfl) (by go_simp;rfl) (by go_simp;rfl) (by go_simp) ?_
 refine eqf_cons (by rfl) (by go_simp;rfl) (by go_simp;rfl) (by go_simp) ?_
 exact eqf_last (by rfl) (by go_simp;rfl) (by go_simp;rfl) (by go_simp)
theorem eqA125 (d : Nat) (w : World) (x0 y0 : Int) (x1 y1 : Int) (x2 y2 : Int) :
  (Op.equalIn (d + 2) 75 (.agg #[.int .i64 x0,.int .i64 x1,.int .i64 x2]) (.agg #[.int .i64 y0,.int .i64 y1,.int .i64 y2])).run Tryz.prog w = .ok (x0 == y0 && (x1 == y1 && (x2 == y2))) w:=by
 refine eqA_of Tryz.underlying75 (by kernel_rfl) ?_
 refine eqf_cons (by rfl) (by go_simp;rfl) (by go_simp;rfl) (by go_simp) ?_
 refine eqf_cons (by rfl) (by go_simp;rfl) (by go_simp;rfl) (by go_simp) ?_
 exact eqf_last (by rfl) (by go_simp;rfl) (by go_simp;rfl) (by go_simp)
set_option maxHeartbeats 1000000 in
set_option maxRecDepth 100000 in
theorem eq63 {w : World} {A B : Option Addr} {n m : Nat} {l : List Int} (hn : l.length ≤ 9223372036854775806) (hA : (Kd.int .i64).C w A l.length l) (hB : (Kd.int .i64).C w B l.length l) :
  Calls Tryz.prog 44 #[.slice A l.length n,.slice B l.length m] w fun e w' => e = .returned (.bool true) ∧ Drawn0 w w':=by
 have HN:=A0_.mk hn
 have HA:=A0_.mk hA
 have HB:=A0_.mk hB
 clear hA hB hn
 go_enter Tryz.func44,Tryz.ntmps44
 go_wp2
 (try simp only [Act.put,sA_,sB_,sC_])
 go_loopg [13] (l.length + 1) (fun kq v13 w' => ∃ x : Int,v13 = .int .i64 x ∧ A0_ (x + (kq : Int) = (l.length : Int) + 1) ∧ A0_ (0 ≤ x ∧ x ≤ (l.length : Int) ∧ l.length ≤ 9223372036854775806) ∧ Drawn0 w w')
 case atStart => exact ⟨0,rfl,⟨by push_cast;omega⟩,⟨by have:=HN.out;omega⟩,Drawn0.refl _⟩
 case round =>
  obtain ⟨x,rfl,HK,HKN,⟨m1,rfl⟩⟩:=hrel
  by_cases ck : x < (l.length : Int)
  ·obtain ⟨g1,rfl⟩ : ∃ g1,gk = g1 + 1:=by
    cases gk with
    |zero => have:=HK.out;omega
    |succ g1 => exact ⟨g1,rfl⟩
   have p1 : 0 ≤ x:=HKN.out.1
   have q1 : x < (l.length : Int):=ck
   obtain ⟨ad1,e1,h1⟩:=Kd.at_int HA.out x p1 q1
   cases e1
   obtain ⟨ad2,e2,h2⟩:=Kd.at_int HB.out x p1 q1
   cases e2
   have HW:=A0_.mk (show wrap64 (x + 1) = x + 1 from IntWalk.wrap64_in _ (by have:=HKN.out;omega))
   have ckb : decide (x < (l.length : Int)) = true:=decide_eq_true q1
   have ckc : decide (0 ≤ x) = true:=decide_eq_true p1
   replace p1:=eq_true p1
   replace q1:=eq_true q1
   clear ck
   go_wp2
   repeat (go_quiet (fail);try go_wp2)
   skip
   go_roundg g1
   case measure => omega
   case rel => exact ⟨wrap64 (x + 1),rfl,⟨by rw [HW.out];have:=HK.out;push_cast at this;omega⟩,⟨by rw [HW.out];have:=HKN.out;have:=of_decide_eq_true ckb;omega⟩,by repeat (first|exact Drawn0.refl _|apply Drawn0.step)⟩
  ·have ckb : decide (x < (l.length : Int)) = false:=decide_eq_false ck
   clear ck
   go_wp2
   repeat (go_quiet (fail);try go_wp2)
   go_ret
   exact ⟨by simp,by repeat (first|exact Drawn0.refl _|apply Drawn0.step)⟩
section
attribute [local go_sem high] eqA108
set_option maxHeartbeats 1000000 in
set_option maxRecDepth 100000 in
theorem eq64 {w : World} {A B : Option Addr} {n m : Nat} {l : List S108} (hn : l.length ≤ 9223372036854775806) (hA : k108.C w A l.length l) (hB : k108.C w B l.length l) :
  Calls Tryz.prog 45 #[.slice A l.length n,.slice B l.length m] w fun e w' => e = .returned (.bool true) ∧ Drawn0 w w':=by
 have HN:=A0_.mk hn
 have HA:=A0_.mk hA
 have HB:=A0_.mk hB
 clear hA hB hn
 go_enter Tryz.func45,Tryz.ntmps45
 go_wp2
 (try simp only [Act.put,sA_,sB_,sC_])
 go_loopg [13] (l.length + 1) (fun kq v13 w' => ∃ x : Int,v13 = .int .i64 x ∧ A0_ (x + (kq : Int) = (l.length : Int) + 1) ∧ A0_ (0 ≤ x ∧ x ≤ (l.length : Int) ∧ l.length ≤ 9223372036854775806) ∧ Drawn0 w w')
 case atStart => exact ⟨0,rfl,⟨by push_cast;omega⟩,⟨by have:=HN.out;omega⟩,Drawn0.refl _⟩
 case round =>
  obtain ⟨x,rfl,HK,HKN,⟨m1,rfl⟩⟩:=hrel
  by_cases ck : x < (l.length : Int)
  ·obtain ⟨g1,rfl⟩ : ∃ g1,gk = g1 + 1:=by
    cases gk with
    |zero => have:=HK.out;omega
    |succ g1 => exact ⟨g1,rfl⟩
   have p1 : 0 ≤ x:=HKN.out.1
   have q1 : x < (l.length : Int):=ck
   obtain ⟨ad1,e1,h10,h11,h12⟩:=at_T108 HA.out x p1 q1
   cases e1
   obtain ⟨ad2,e2,h20,h21,h22⟩:=at_T108 HB.out x p1 q1
   cases e2
   have HW:=A0_.mk (show wrap64 (x + 1) = x + 1 from IntWalk.wrap64_in _ (by have:=HKN.out;omega))
   have ckb : decide (x < (l.length : Int)) = true:=decide_eq_true q1
   have ckc : decide (0 ≤ x) = true:=decide_eq_true p1
   replace p1:=eq_true p1
   replace q1:=eq_true q1
   clear ck
   go_wp2
   repeat (go_quiet (fail);try go_wp2)
   skip
   go_roundg g1
   case measure => omega
   case rel => exact ⟨wrap64 (x + 1),rfl,⟨by rw [HW.out];have:=HK.out;push_cast at this;omega⟩,⟨by rw [HW.out];have:=HKN.out;have:=of_decide_eq_true ckb;omega⟩,by repeat (first|exact Drawn0.refl _|apply Drawn0.step)⟩
  ·have ckb : decide (x < (l.length : Int)) = false:=decide_eq_false ck
   clear ck
   go_wp2
   repeat (go_quiet (fail);try go_wp2)
   go_ret
   exact ⟨by simp,by repeat (first|exact Drawn0.refl _|apply Drawn0.step)⟩
end
section
attribute [local go_sem high] eqA125
set_option maxHeartbeats 1000000 in
set_option maxRecDepth 100000 in
theorem eq65 {w : World} {A B : Option Addr} {n m : Nat} {l : List S125} (hn : l.length ≤ 9223372036854775806) (hA : k125.C w A l.length l) (hB : k125.C w B l.length l) :
  Calls Tryz.prog 46 #[.slice A l.length n,.slice B l.length m] w fun e w' => e = .returned (.bool true) ∧ Drawn0 w w':=by
 have HN:=A0_.mk hn
 have HA:=A0_.mk hA
 have HB:=A0_.mk hB
 clear hA hB hn
 go_enter Tryz.func46,Tryz.ntmps46
 go_wp2
 (try simp only [Act.put,sA_,sB_,sC_])
 go_loopg [13] (l.length + 1) (fun kq v13 w' => ∃ x : Int,v13 = .int .i64 x ∧ A0_ (x + (kq : Int) = (l.length : Int) + 1) ∧ A0_ (0 ≤ x ∧ x ≤ (l.length : Int) ∧ l.length ≤ 9223372036854775806) ∧ Drawn0 w w')
 case atStart => exact ⟨0,rfl,⟨by push_cast;omega⟩,⟨by have:=HN.out;omega⟩,Drawn0.refl _⟩
 case round =>
  obtain ⟨x,rfl,HK,HKN,⟨m1,rfl⟩⟩:=hrel
  by_cases ck : x < (l.length : Int)
  ·obtain ⟨g1,rfl⟩ : ∃ g1,gk = g1 + 1:=by
    cases gk with
    |zero => have:=HK.out;omega
    |succ g1 => exact ⟨g1,rfl⟩
   have p1 : 0 ≤ x:=HKN.out.1
   have q1 : x < (l.length : Int):=ck
   obtain ⟨ad1,e1,h10,h11,h12⟩:=at_T125 HA.out x p1 q1
   cases e1
   obtain ⟨ad2,e2,h20,h21,h22⟩:=at_T125 HB.out x p1 q1
   cases e2
   have HW:=A0_.mk (show wrap64 (x + 1) = x + 1 from IntWalk.wrap64_in _ (by have:=HKN.out;omega))
   have ckb : decide (x < (l.length : Int)) = true:=decide_eq_true q1
   have ckc : decide (0 ≤ x) = true:=decide_eq_true p1
   replace p1:=eq_true p1
   replace q1:=eq_true q1
   clear ck
   go_wp2
   repeat (go_quiet (fail);try go_wp2)
   skip
   go_roundg g1
   case measure => omega
   case rel => exact ⟨wrap64 (x + 1),rfl,⟨by rw [HW.out];have:=HK.out;push_cast at this;omega⟩,⟨by rw [HW.out];have:=HKN.out;have:=of_decide_eq_true ckb;omega⟩,by repeat (first|exact Drawn0.refl _|apply Drawn0.step)⟩
  ·have ckb : decide (x < (l.length : Int)) = false:=decide_eq_false ck
   clear ck
   go_wp2
   repeat (go_quiet (fail);try go_wp2)
   go_ret
   exact ⟨by simp,by repeat (first|exact Drawn0.refl _|apply Drawn0.step)⟩
end
section
attribute [local go_sem high] eqA59
set_option maxHeartbeats 1000000 in
set_option maxRecDepth 100000 in
theorem eq66 {w : World} {A B : Option Addr} {n m : Nat} {l : List S59} (hn : l.length ≤ 9223372036854775806) (hA : k59.C w A l.length l) (hB : k59.C w B l.length l) :
  Calls Tryz.prog 47 #[.slice A l.length n,.slice B l.length m] w fun e w' => e = .returned (.bool true) ∧ Drawn0 w w':=by
 have HN:=A0_.mk hn
 have HA:=A0_.mk hA
 have HB:=A0_.mk hB
 clear hA hB hn
 go_enter Tryz.func47,Tryz.ntmps47
 go_wp2
 (try simp only [Act.put,sA_,sB_,sC_])
 go_loopg [13] (l.length + 1) (fun kq v13 w' => ∃ x : Int,v13 = .int .i64 x ∧ A0_ (x + (kq : Int) = (l.length : Int) + 1) ∧ A0_ (0 ≤ x ∧ x ≤ (l.length : Int) ∧ l.length ≤ 9223372036854775806) ∧ Drawn0 w w')
 case atStart => exact ⟨0,rfl,⟨by push_cast;omega⟩,⟨by have:=HN.out;omega⟩,Drawn0.refl _⟩
 case round =>
  obtain ⟨x,rfl,HK,HKN,⟨m1,rfl⟩⟩:=hrel
  by_cases ck : x < (l.length : Int)
  ·obtain ⟨g1,rfl⟩ : ∃ g1,gk = g1 + 1:=by
    cases gk with
    |zero => have:=HK.out;omega
    |succ g1 => exact ⟨g1,rfl⟩
   have p1 : 0 ≤ x:=HKN.out.1
   have q1 : x < (l.length : Int):=ck
   obtain ⟨ad1,e1,h10,h11,h12⟩:=at_T59 HA.out x p1 q1
   cases e1
   obtain ⟨ad2,e2,h20,h21,h22⟩:=at_T59 HB.out x p1 q1
   cases e2
   have HW:=A0_.mk (show wrap64 (x + 1) = x + 1 from IntWalk.wrap64_in _ (by have:=HKN.out;omega))
   have ckb : decide (x < (l.length : Int)) = true:=decide_eq_true q1
   have ckc : decide (0 ≤ x) = true:=decide_eq_true p1
   replace p1:=eq_true p1
   replace q1:=eq_true q1
   clear ck
   go_wp2
   repeat (go_quiet (fail);try go_wp2)
   skip
   go_roundg g1
   case measure => omega
   case rel => exact ⟨wrap64 (x + 1),rfl,⟨by rw [HW.out];have:=HK.out;push_cast at this;omega⟩,⟨by rw [HW.out];have:=HKN.out;have:=of_decide_eq_true ckb;omega⟩,by repeat (first|exact Drawn0.refl _|apply Drawn0.step)⟩
  ·have ckb : decide (x < (l.length : Int)) = false:=decide_eq_false ck
   clear ck
   go_wp2
   repeat (go_quiet (fail);try go_wp2)
   go_ret
   exact ⟨by simp,by repeat (first|exact Drawn0.refl _|apply Drawn0.step)⟩
end
set_option maxHeartbeats 1000000 in
set_option maxRecDepth 100000 in
theorem eq67 {w : World} {A B : Option Addr} {n m : Nat} {l : List ByteArray} (hn : l.length ≤ 9223372036854775806) (hA : Kd.string.C w A l.length l) (hB : Kd.string.C w B l.length l) :
  Calls Tryz.prog 48 #[.slice A l.length n,.slice B l.length m] w fun e w' => e = .returned (.bool true) ∧ Drawn0 w w':=by
 have HN:=A0_.mk hn
 have HA:=A0_.mk hA
 have HB:=A0_.mk hB
 clear hA hB hn
 go_enter Tryz.func48,Tryz.ntmps48
 go_wp2
 (try simp only [Act.put,sA_,sB_,sC_])
 go_loopg [13] (l.length + 1) (fun kq v13 w' => ∃ x : Int,v13 = .int .i64 x ∧ A0_ (x + (kq : Int) = (l.length : Int) + 1) ∧ A0_ (0 ≤ x ∧ x ≤ (l.length : Int) ∧ l.length ≤ 9223372036854775806) ∧ Drawn0 w w')
 case atStart => exact ⟨0,rfl,⟨by push_cast;omega⟩,⟨by have:=HN.out;omega⟩,Drawn0.refl _⟩
 case round =>
  obtain ⟨x,rfl,HK,HKN,⟨m1,rfl⟩⟩:=hrel
  by_cases ck : x < (l.length : Int)
  ·obtain ⟨g1,rfl⟩ : ∃ g1,gk = g1 + 1:=by
    cases gk with
    |zero => have:=HK.out;omega
    |succ g1 => exact ⟨g1,rfl⟩
   have p1 : 0 ≤ x:=HKN.out.1
   have q1 : x < (l.length : Int):=ck
   obtain ⟨ad1,e1,h1⟩:=Kd.at_string HA.out x p1 q1
   cases e1
   obtain ⟨ad2,e2,h2⟩:=Kd.at_string HB.out x p1 q1
   cases e2
   have HW:=A0_.mk (show wrap64 (x + 1) = x + 1 from IntWalk.wrap64_in _ (by have:=HKN.out;omega))
   have ckb : decide (x < (l.length : Int)) = true:=decide_eq_true q1
   have ckc : decide (0 ≤ x) = true:=decide_eq_true p1
   replace p1:=eq_true p1
   replace q1:=eq_true q1
   clear ck
   go_wp2
   repeat (go_quiet (fail);try go_wp2)
   skip
   go_roundg g1
   case measure => omega
   case rel => exact ⟨wrap64 (x + 1),rfl,⟨by rw [HW.out];have:=HK.out;push_cast at this;omega⟩,⟨by rw [HW.out];have:=HKN.out;have:=of_decide_eq_true ckb;omega⟩,by repeat (first|exact Drawn0.refl _|apply Drawn0.step)⟩
  ·have ckb : decide (x < (l.length : Int)) = false:=decide_eq_false ck
   clear ck
   go_wp2
   repeat (go_quiet (fail);try go_wp2)
   go_ret
   exact ⟨by simp,by repeat (first|exact Drawn0.refl _|apply Drawn0.step)⟩
end Go.Proofs.YtdmngdohlobogaaGreatDoor.Asc
end
section
namespace Go.Proofs.YtdmngdohlobogaaGreatDoor.Asc
open Go Go.RowKit Go.Proofs.YtdmngdohlobogaaGreatDoorW.PrintWords
set_option linter.unusedVariables false
def ascii_Head.f (a0 : ByteArray) : Option (ByteArray × List Int × Int × Int × Int):=if a0.size ≤ 140737488355328 then some ((headF a0).1,(headF a0).2.1,(headF a0).2.2.1,0,(headF a0).2.2.2) else none
theorem ascii_Head.calls (a0 : ByteArray) (r1 : ByteArray) (r2 : List Int) (r3 : Int) (r4 : Int) (r5 : Int) (w : World) (hG : GV w) (h : ascii_Head.f a0 = some (r1,r2,r3,r4,r5)) :
  Calls Tryz.prog 18 #[.string a0] w fun e w' => ∃ v1_ : Value,e = .returned (.tuple #[.string r1,v1_,.int .i64 r3,.agg #[.int .i64 r4,.int .i64 r5]]) ∧ Kd.R (Kd.int .i64) 3 w' w.heap.size (fun _ => True) v1_ r2 ∧ Below w.heap.size w w':=by
 unfold ascii_Head.f at h
 split at h
 ·rename_i hl
  simp only [Option.some.injEq,Prod.mk.injEq] at h
  obtain ⟨rfl,rfl,rfl,rfl,rfl⟩:=h
  have key : Calls Tryz.prog 18 #[.string a0] w (HeadEnd w (headF a0)):=by
   by_cases h1 : 262144 < a0.size
   ·have e : headF a0 = headErr 2:=by unfold headF;rw [if_pos h1]
    rw [e]
    exact head_long h1 hl
   ·exact head_calls hG (by omega)
  exact key
 ·cases h
end Go.Proofs.YtdmngdohlobogaaGreatDoor.Asc
end
