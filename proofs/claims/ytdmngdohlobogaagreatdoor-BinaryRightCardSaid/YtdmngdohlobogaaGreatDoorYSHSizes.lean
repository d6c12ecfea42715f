import Derived.Test.YtdmngdohlobogaaGreatDoorYSHUses
namespace Go.Proofs.YtdmngdohlobogaaGreatDoor.Asc
open Go Go.RowKit Go.Proofs.YtdmngdohlobogaaGreatDoorW.PrintWords Go.Proofs.YtdmngdohlobogaaGreatDoorW.PrintLast Go.Proofs.YtdmngdohlobogaaGreatDoorW.PrintMore
set_option linter.unusedVariables false
set_option linter.unusedSimpArgs false
def sizeList (c : S65) : List Nat:=[c.f1.length,c.f2.length,c.f3.length,c.f4.length,c.f5.length,c.f6.length,c.f7.length,c.f8.length,c.f9.length,c.f10.length]
def sumLen (l : List (List Int)) : Nat:=(l.map List.length).sum
def sizesF (c : S65) : Int :=
 if c.f0 < 0 ∨ c.f0 > 16384 then 1
 else if (sizeList c).any (fun n => decide (n > 16384)) = true then 2
 else if sumLen c.f6 > 16384 then 2 else 0
theorem total_ev (l : List (List Int)) (hl : l.length ≤ 16384) (hr : ∀ r ∈ l,r.length ≤ 140737488355328) (m : Nat) : ∀ i,i + m = l.length → shape_total.l0 (m + 1) (sumLen (l.take i) : Int) l (l.length : Int) (i : Int) = some (sumLen l : Int):=by
 have bnd : ∀ s : List (List Int),s.length ≤ 16384 → (∀ r ∈ s,r.length ≤ 140737488355328) → sumLen s ≤ 140737488355328 * s.length:=by
  intro s
  induction s with
  |nil => intro _ _;simp [sumLen]
  |cons r s ih =>
   intro h1 h2
   have:=ih (by simp at h1;omega) (fun x hx => h2 x (by simp [hx]))
   have h3:=h2 r (by simp)
   simp only [sumLen,List.map_cons,List.sum_cons,List.length_cons] at this ⊢
   omega
 induction m with
 |zero =>
  intro i hi
  have : i = l.length:=by omega
  subst this
  rw [shape_total.l0,if_neg (by omega),List.take_length]
 |succ m ih =>
  intro i hi
  have hil : i < l.length:=by omega
  have e1 : rd_L2 l (i : Int) = l[i]:=by simp [rd_L2,hil]
  have hsum : sumLen (l.take (i + 1)) = sumLen (l.take i) + l[i].length:=by
   rw [List.take_succ_eq_append_getElem hil]
   simp only [sumLen,List.map_append,List.sum_append,List.map_cons,List.map_nil,List.sum_cons,List.sum_nil]
   omega
  have hb:=bnd (l.take (i + 1)) (by simp;omega) (fun r hr' => hr r (List.mem_of_mem_take hr'))
  have hlen : (l.take (i + 1)).length ≤ 16384:=by simp;omega
  have:=ih (i + 1) (by omega)
  rw [shape_total.l0,if_pos (by omega)]
  have hmul : 140737488355328 * (l.take (i + 1)).length ≤ 140737488355328 * 16384:=Nat.mul_le_mul_left _ hlen
  have w1 : wrap64 ((sumLen (l.take i) : Int) + ((rd_L2 l (i : Int)).length : Int)) = (sumLen (l.take (i + 1)) : Int):=by
   rw [e1,hsum]
   unfold wrap64
   omega
  have w2 : wrap64 ((i : Int) + 1) = ((i + 1 : Nat) : Int):=by
   unfold wrap64
   omega
  rw [w1,w2,if_pos (by omega),if_pos (by omega)]
  exact this
set_option maxHeartbeats 4000000 in
set_option maxRecDepth 100000 in
theorem sizes_calls {c : S65} {a : CA} {w : World} (hC : CR w c a) (h6 : c.f6.length ≤ a.c6) (hj : ∀ r ∈ c.f6,r.length ≤ 140737488355328) :
  Calls Tryz.prog 84 #[.agg (cellsC c a)] w fun e w' => e = .returned (.int .i64 (sizesF c)) ∧ Below w.heap.size w w':=by
 obtain ⟨A1,A2,A3,A4,A5,A6,A7,A8,A9,A10,c1,c2,c3,c4,c5,c6,c7,c8,c9,c10⟩:=a
 have hu65:=Tryz.underlying29
 have hu165:=Tryz.underlying150
 obtain ⟨R,hR⟩ : ∃ R,sizesF c = R:=⟨_,rfl⟩
 rw [hR]
 unfold sizesF at hR
 have h6 : c.f6.length ≤ c6:=h6
 have HC:=A0_.mk hC
 have HJ:=A0_.mk hj
 have H6:=A0_.mk h6
 clear hC hj h6
 show Calls Tryz.prog 84 #[.agg #[.int .i64 c.f0,.slice A1 c.f1.length c1,.slice A2 c.f2.length c2,.slice A3 c.f3.length c3,.slice A4 c.f4.length c4,.slice A5 c.f5.length c5,.slice A6 c.f6.length c6,.slice A7 c.f7.length c7,.slice A8 c.f8.length c8,.slice A9 c.f9.length c9,.slice A10 c.f10.length c10]] w _
 by_cases u1 : c.f0 < 0
 ·rw [if_pos (.inl u1)] at hR
  subst hR
  have u1b : decide (c.f0 < 0) = true:=decide_eq_true u1
  clear u1
  go_enter Tryz.func84,Tryz.ntmps84
  go_wp2
  repeat (go_quiet (fail);try go_wp2)
  go_ret
  exact ⟨rfl,eA_ (Below.refl _ _) _⟩
 ·have u1b : decide (c.f0 < 0) = false:=decide_eq_false u1
  by_cases u2 : c.f0 > 16384
  ·rw [if_pos (.inr u2)] at hR
   subst hR
   have u2b : decide (16384 < c.f0) = true:=decide_eq_true u2
   clear u1 u2
   go_enter Tryz.func84,Tryz.ntmps84
   go_wp2
   repeat (go_quiet (fail);try go_wp2)
   go_ret
   exact ⟨rfl,eA_ (Below.refl _ _) _⟩
  ·rw [if_neg (fun h => h.elim u1 u2)] at hR
   have u2b : decide (16384 < c.f0) = false:=decide_eq_false u2
   clear u1 u2
   have HR:=A0_.mk hR
   clear hR
   have i0 : ∀ w : World,(Instr.index 150 (.agg #[.int .i64 (c.f1.length : Int),.int .i64 (c.f2.length : Int),.int .i64 (c.f3.length : Int),.int .i64 (c.f4.length : Int),.int .i64 (c.f5.length : Int),.int .i64 (c.f6.length : Int),.int .i64 (c.f7.length : Int),.int .i64 (c.f8.length : Int),.int .i64 (c.f9.length : Int),.int .i64 (c.f10.length : Int)]) (.int .i64 0)).run Tryz.prog w = .ok (.int .i64 (c.f1.length : Int)) w:=fun _ => by kernel_rfl
   have i1 : ∀ w : World,(Instr.index 150 (.agg #[.int .i64 (c.f1.length : Int),.int .i64 (c.f2.length : Int),.int .i64 (c.f3.length : Int),.int .i64 (c.f4.length : Int),.int .i64 (c.f5.length : Int),.int .i64 (c.f6.length : Int),.int .i64 (c.f7.length : Int),.int .i64 (c.f8.length : Int),.int .i64 (c.f9.length : Int),.int .i64 (c.f10.length : Int)]) (.int .i64 1)).run Tryz.prog w = .ok (.int .i64 (c.f2.length : Int)) w:=fun _ => by kernel_rfl
   have i2 : ∀ w : World,(Instr.index 150 (.agg #[.int .i64 (c.f1.length : Int),.int .i64 (c.f2.length : Int),.int .i64 (c.f3.length : Int),.int .i64 (c.f4.length : Int),.int .i64 (c.f5.length : Int),.int .i64 (c.f6.length : Int),.int .i64 (c.f7.length : Int),.int .i64 (c.f8.length : Int),.int .i64 (c.f9.length : Int),.int .i64 (c.f10.length : Int)]) (.int .i64 2)).run Tryz.prog w = .ok (.int .i64 (c.f3.length : Int)) w:=fun _ => by kernel_rfl
   have i3 : ∀ w : World,(Instr.index 150 (.agg #[.int .i64 (c.f1.length : Int),.int .i64 (c.f2.length : Int),.int .i64 (c.f3.length : Int),.int .i64 (c.f4.length : Int),.int .i64 (c.f5.length : Int),.int .i64 (c.f6.length : Int),.int .i64 (c.f7.length : Int),.int .i64 (c.f8.length : Int),.int .i64 (c.f9.length : Int),.int .i64 (c.f10.length : Int)]) (.int .i64 3)).run Tryz.prog w = .ok (.int .i64 (c.f4.length : Int)) w:=fun _ => by kernel_rfl
   have i4 : ∀ w : World,(Instr.index 150 (.agg #[.int .i64 (c.f1.length : Int),.int .i64 (c.f2.length : Int),.int .i64 (c.f3.length : Int),.int .i64 (c.f4.length : Int),.int .i64 (c.f5.length : Int),.int .i64 (c.f6.length : Int),.int .i64 (c.f7.length : Int),.int .i64 (c.f8.length : Int),.int .i64 (c.f9.length : Int),.int .i64 (c.f10.length : Int)]) (.int .i64 4)).run Tryz.prog w = .ok (.int .i64 (c.f5.length : Int)) w:=fun _ => by kernel_rfl
   have i5 : ∀ w : World,(Instr.index 150 (.agg #[.int .i64 (c.f1.length : Int),.int .i64 (c.f2.length : Int),.int .i64 (c.f3.length : Int),.int .i64 (c.f4.length : Int),.int .i64 (c.f5.length : Int),.int .i64 (c.f6.length : Int),.int .i64 (c.f7.length : Int),.int .i64 (c.f8.length : Int),.int .i64 (c.f9.length : Int),.int .i64 (c.f10.length : Int)]) (.int .i64 5)).run Tryz.prog w = .ok (.int .i64 (c.f6.length : Int)) w:=fun _ => by kernel_rfl
   have i6 : ∀ w : World,(Instr.index 150 (.agg #[.int .i64 (c.f1.length : Int),.int .i64 (c.f2.length : Int),.int .i64 (c.f3.length : Int),.int .i64 (c.f4.length : Int),.int .i64 (c.f5.length : Int),.int .i64 (c.f6.length : Int),.int .i64 (c.f7.length : Int),.int .i64 (c.f8.length : Int),.int .i64 (c.f9.length : Int),.int .i64 (c.f10.length : Int)]) (.int .i64 6)).run Tryz.prog w = .ok (.int .i64 (c.f7.length : Int)) w:=fun _ => by kernel_rfl
   have i7 : ∀ w : World,(Instr.index 150 (.agg #[.int .i64 (c.f1.length : Int),.int .i64 (c.f2.length : Int),.int .i64 (c.f3.length : Int),.int .i64 (c.f4.length : Int),.int .i64 (c.f5.length : Int),.int .i64 (c.f6.length : Int),.int .i64 (c.f7.length : Int),.int .i64 (c.f8.length : Int),.int .i64 (c.f9.length : Int),.int .i64 (c.f10.length : Int)]) (.int .i64 7)).run Tryz.prog w = .ok (.int .i64 (c.f8.length : Int)) w:=fun _ => by kernel_rfl
   have i8 : ∀ w : World,(Instr.index 150 (.agg #[.int .i64 (c.f1.length : Int),.int .i64 (c.f2.length : Int),.int .i64 (c.f3.length : Int),.int .i64 (c.f4.length : Int),.int .i64 (c.f5.length : Int),.int .i64 (c.f6.length : Int),.int .i64 (c.f7.length : Int),.int .i64 (c.f8.length : Int),.int .i64 (c.f9.length : Int),.int .i64 (c.f10.length : Int)]) (.int .i64 8)).run Tryz.prog w = .ok (.int .i64 (c.f9.length : Int)) w:=fun _ => by kernel_rfl
   have i9 : ∀ w : World,(Instr.index 150 (.agg #[.int .i64 (c.f1.length : Int),.int .i64 (c.f2.length : Int),.int .i64 (c.f3.length : Int),.int .i64 (c.f4.length : Int),.int .i64 (c.f5.length : Int),.int .i64 (c.f6.length : Int),.int .i64 (c.f7.length : Int),.int .i64 (c.f8.length : Int),.int .i64 (c.f9.length : Int),.int .i64 (c.f10.length : Int)]) (.int .i64 9)).run Tryz.prog w = .ok (.int .i64 (c.f10.length : Int)) w:=fun _ => by kernel_rfl
   go_enter Tryz.func84,Tryz.ntmps84
   go_wp2
   repeat (go_quiet (fail);try go_wp2)
   (try simp only [Act.put,sA_,sB_,sC_])
   go_loopg [44] 11 (fun kq v w' => ∃ (n : Nat),v = .int .i64 n ∧ A0_ (n + kq = 11) ∧ A0_ (n ≤ 10) ∧ A0_ ((if ((sizeList c).drop n).any (fun n => decide (n > 16384)) = true then (2 : Int) else if sumLen c.f6 > 16384 then 2 else 0) = R) ∧ A0_ (∀ m ∈ (sizeList c).take n,m ≤ 16384) ∧ w' = w.alloc (.cells #[.int .i64 c.f0,.slice A1 c.f1.length c1,.slice A2 c.f2.length c2,.slice A3 c.f3.length c3,.slice A4 c.f4.length c4,.slice A5 c.f5.length c5,.slice A6 c.f6.length c6,.slice A7 c.f7.length c7,.slice A8 c.f8.length c8,.slice A9 c.f9.length c9,.slice A10 c.f10.length c10] 29))
   case atStart => exact ⟨0,rfl,⟨by omega⟩,⟨Nat.zero_le _⟩,⟨by rw [List.drop_zero];exact HR.out⟩,⟨by simp⟩,rfl⟩
   case round =>
    clear HR
    obtain ⟨n,rfl,HK,HNL,HR,HF,rfl⟩:=hrel
    cases gk with
    |zero =>
     have h1:=HK.out
     have h2:=HNL.out
     omega
    |succ k1 =>
     have hcase : n = 0 ∨ n = 1 ∨ n = 2 ∨ n = 3 ∨ n = 4 ∨ n = 5 ∨ n = 6 ∨ n = 7 ∨ n = 8 ∨ n = 9 ∨ n = 10:=by have:=HNL.out;omega
     rcases hcase with rfl|rfl|rfl|rfl|rfl|rfl|rfl|rfl|rfl|rfl|rfl
     ·by_cases cb : c.f1.length > 16384
      ·have cbb : decide ((16384 : Int) < (c.f1.length : Int)) = true:=decide_eq_true (by omega)
       have hr : (2 : Int) = R:=by
        have h:=HR.out
        rw [if_pos (by simp [sizeList,cb])] at h
        exact h
       subst hr
       clear cb
       go_wp2
       repeat (go_quiet (fail);try go_wp2)
       go_ret
       exact ⟨rfl,eA_ (Below.refl _ _) _⟩
      ·have cbb : decide ((16384 : Int) < (c.f1.length : Int)) = false:=decide_eq_false (by omega)
       have hr : (if ((sizeList c).drop (0 + 1)).any (fun n => decide (n > 16384)) = true then (2 : Int) else if sumLen c.f6 > 16384 then 2 else 0) = R:=by
        have h:=HR.out
        have e : (sizeList c).drop 0 = c.f1.length :: (sizeList c).drop (0 + 1):=rfl
        rw [e,List.any_cons,decide_eq_false cb,Bool.false_or] at h
        exact h
       have hf : ∀ m ∈ (sizeList c).take (0 + 1),m ≤ 16384:=by
        have e : (sizeList c).take (0 + 1) = (sizeList c).take 0 ++ [c.f1.length]:=rfl
        intro m hm
        rw [e] at hm
        rcases List.mem_append.1 hm with hm|hm
        ·exact HF.out m hm
        ·rw [List.mem_singleton.1 hm]
         omega
       have HR9:=A0_.mk hr
       have HF9:=A0_.mk hf
       clear hr hf cb
       go_wp2
       repeat (go_quiet (fail);try go_wp2)
       go_roundg k1
       case measure => omega
       case rel => exact ⟨0 + 1,rfl,⟨by have:=HK.out;omega⟩,⟨by omega⟩,HR9,HF9,rfl⟩
     ·by_cases cb : c.f2.length > 16384
      ·have cbb : decide ((16384 : Int) < (c.f2.length : Int)) = true:=decide_eq_true (by omega)
       have hr : (2 : Int) = R:=by
        have h:=HR.out
        rw [if_pos (by simp [sizeList,cb])] at h
        exact h
       subst hr
       clear cb
       go_wp2
       repeat (go_quiet (fail);try go_wp2)
       go_ret
       exact ⟨rfl,eA_ (Below.refl _ _) _⟩
      ·have cbb : decide ((16384 : Int) < (c.f2.length : Int)) = false:=decide_eq_false (by omega)
       have hr : (if ((sizeList c).drop (1 + 1)).any (fun n => decide (n > 16384)) = true then (2 : Int) else if sumLen c.f6 > 16384 then 2 else 0) = R:=by
        have h:=HR.out
        have e : (sizeList c).drop 1 = c.f2.length :: (sizeList c).drop (1 + 1):=rfl
        rw [e,List.any_cons,decide_eq_false cb,Bool.false_or] at h
        exact h
       have hf : ∀ m ∈ (sizeList c).take (1 + 1),m ≤ 16384:=by
        have e : (sizeList c).take (1 + 1) = (sizeList c).take 1 ++ [c.f2.length]:=rfl
        intro m hm
        rw [e] at hm
        rcases List.mem_append.1 hm with hm|hm
        ·exact HF.out m hm
        ·rw [List.mem_singleton.1 hm]
         omega
       have HR9:=A0_.mk hr
       have HF9:=A0_.mk hf
       clear hr hf cb
       go_wp2
       repeat (go_quiet (fail);try go_wp2)
       go_roundg k1
       case measure => omega
       case rel => exact ⟨1 + 1,rfl,⟨by have:=HK.out;omega⟩,⟨by omega⟩,HR9,HF9,rfl⟩
     ·by_cases cb : c.f3.length > 16384
      ·have cbb : decide ((16384 : Int) < (c.f3.length : Int)) = true:=decide_eq_true (by omega)
       have hr : (2 : Int) = R:=by
        have h:=HR.out
        rw [if_pos (by simp [sizeList,cb])] at h
        exact h
       subst hr
       clear cb
       go_wp2
       repeat (go_quiet (fail);try go_wp2)
       go_ret
       exact ⟨rfl,eA_ (Below.refl _ _) _⟩
      ·have cbb : decide ((16384 : Int) < (c.f3.length : Int)) = false:=decide_eq_false (by omega)
       have hr : (if ((sizeList c).drop (2 + 1)).any (fun n => decide (n > 16384)) = true then (2 : Int) else if sumLen c.f6 > 16384 then 2 else 0) = R:=by
        have h:=HR.out
        have e : (sizeList c).drop 2 = c.f3.length :: (sizeList c).drop (2 + 1):=rfl
        rw [e,List.any_cons,decide_eq_false cb,Bool.false_or] at h
        exact h
       have hf : ∀ m ∈ (sizeList c).take (2 + 1),m ≤ 16384:=by
        have e : (sizeList c).take (2 + 1) = (sizeList c).take 2 ++ [c.f3.length]:=rfl
        intro m hm
        rw [e] at hm
        rcases List.mem_append.1 hm with hm|hm
        ·exact HF.out m hm
        ·rw [List.mem_singleton.1 hm]
         omega
       have HR9:=A0_.mk hr
       have HF9:=A0_.mk hf
       clear hr hf cb
       go_wp2
       repeat (go_quiet (fail);try go_wp2)
       go_roundg k1
       case measure => omega
       case rel => exact ⟨2 + 1,rfl,⟨by have:=HK.out;omega⟩,⟨by omega⟩,HR9,HF9,rfl⟩
     ·by_cases cb : c.f4.length > 16384
      ·have cbb : decide ((16384 : Int) < (c.f4.length : Int)) = true:=decide_eq_true (by omega)
       have hr : (2 : Int) = R:=by
        have h:=HR.out
        rw [if_pos (by simp [sizeList,cb])] at h
        exact h
       subst hr
       clear cb
       go_wp2
       repeat (go_quiet (fail);try go_wp2)
       go_ret
       exact ⟨rfl,eA_ (Below.refl _ _) _⟩
      ·have cbb : decide ((16384 : Int) < (c.f4.length : Int)) = false:=decide_eq_false (by omega)
       have hr : (if ((sizeList c).drop (3 + 1)).any (fun n => decide (n > 16384)) = true then (2 : Int) else if sumLen c.f6 > 16384 then 2 else 0) = R:=by
        have h:=HR.out
        have e : (sizeList c).drop 3 = c.f4.length :: (sizeList c).drop (3 + 1):=rfl
        rw [e,List.any_cons,decide_eq_false cb,Bool.false_or] at h
        exact h
       have hf : ∀ m ∈ (sizeList c).take (3 + 1),m ≤ 16384:=by
        have e : (sizeList c).take (3 + 1) = (sizeList c).take 3 ++ [c.f4.length]:=rfl
        intro m hm
        rw [e] at hm
        rcases List.mem_append.1 hm with hm|hm
        ·exact HF.out m hm
        ·rw [List.mem_singleton.1 hm]
         omega
       have HR9:=A0_.mk hr
       have HF9:=A0_.mk hf
       clear hr hf cb
       go_wp2
       repeat (go_quiet (fail);try go_wp2)
       go_roundg k1
       case measure => omega
       case rel => exact ⟨3 + 1,rfl,⟨by have:=HK.out;omega⟩,⟨by omega⟩,HR9,HF9,rfl⟩
     ·by_cases cb : c.f5.length > 16384
      ·have cbb : decide ((16384 : Int) < (c.f5.length : Int)) = true:=decide_eq_true (by omega)
       have hr : (2 : Int) = R:=by
        have h:=HR.out
        rw [if_pos (by simp [sizeList,cb])] at h
        exact h
       subst hr
       clear cb
       go_wp2
       repeat (go_quiet (fail);try go_wp2)
       go_ret
       exact ⟨rfl,eA_ (Below.refl _ _) _⟩
      ·have cbb : decide ((16384 : Int) < (c.f5.length : Int)) = false:=decide_eq_false (by omega)
       have hr : (if ((sizeList c).drop (4 + 1)).any (fun n => decide (n > 16384)) = true then (2 : Int) else if sumLen c.f6 > 16384 then 2 else 0) = R:=by
        have h:=HR.out
        have e : (sizeList c).drop 4 = c.f5.length :: (sizeList c).drop (4 + 1):=rfl
        rw [e,List.any_cons,decide_eq_false cb,Bool.false_or] at h
        exact h
       have hf : ∀ m ∈ (sizeList c).take (4 + 1),m ≤ 16384:=by
        have e : (sizeList c).take (4 + 1) = (sizeList c).take 4 ++ [c.f5.length]:=rfl
        intro m hm
        rw [e] at hm
        rcases List.mem_append.1 hm with hm|hm
        ·exact HF.out m hm
        ·rw [List.mem_singleton.1 hm]
         omega
       have HR9:=A0_.mk hr
       have HF9:=A0_.mk hf
       clear hr hf cb
       go_wp2
       repeat (go_quiet (fail);try go_wp2)
       go_roundg k1
       case measure => omega
       case rel => exact ⟨4 + 1,rfl,⟨by have:=HK.out;omega⟩,⟨by omega⟩,HR9,HF9,rfl⟩
     ·by_cases cb : c.f6.length > 16384
      ·have cbb : decide ((16384 : Int) < (c.f6.length : Int)) = true:=decide_eq_true (by omega)
       have hr : (2 : Int) = R:=by
        have h:=HR.out
        rw [if_pos (by simp [sizeList,cb])] at h
        exact h
       subst hr
       clear cb
       go_wp2
       repeat (go_quiet (fail);try go_wp2)
       go_ret
       exact ⟨rfl,eA_ (Below.refl _ _) _⟩
      ·have cbb : decide ((16384 : Int) < (c.f6.length : Int)) = false:=decide_eq_false (by omega)
       have hr : (if ((sizeList c).drop (5 + 1)).any (fun n => decide (n > 16384)) = true then (2 : Int) else if sumLen c.f6 > 16384 then 2 else 0) = R:=by
        have h:=HR.out
        have e : (sizeList c).drop 5 = c.f6.length :: (sizeList c).drop (5 + 1):=rfl
        rw [e,List.any_cons,decide_eq_false cb,Bool.false_or] at h
        exact h
       have hf : ∀ m ∈ (sizeList c).take (5 + 1),m ≤ 16384:=by
        have e : (sizeList c).take (5 + 1) = (sizeList c).take 5 ++ [c.f6.length]:=rfl
        intro m hm
        rw [e] at hm
        rcases List.mem_append.1 hm with hm|hm
        ·exact HF.out m hm
        ·rw [List.mem_singleton.1 hm]
         omega
       have HR9:=A0_.mk hr
       have HF9:=A0_.mk hf
       clear hr hf cb
       go_wp2
       repeat (go_quiet (fail);try go_wp2)
       go_roundg k1
       case measure => omega
       case rel => exact ⟨5 + 1,rfl,⟨by have:=HK.out;omega⟩,⟨by omega⟩,HR9,HF9,rfl⟩
     ·by_cases cb : c.f7.length > 16384
      ·have cbb : decide ((16384 : Int) < (c.f7.length : Int)) = true:=decide_eq_true (by omega)
       have hr : (2 : Int) = R:=by
        have h:=HR.out
        rw [if_pos (by simp [sizeList,cb])] at h
        exact h
       subst hr
       clear cb
       go_wp2
       repeat (go_quiet (fail);try go_wp2)
       go_ret
       exact ⟨rfl,eA_ (Below.refl _ _) _⟩
      ·have cbb : decide ((16384 : Int) < (c.f7.length : Int)) = false:=decide_eq_false (by omega)
       have hr : (if ((sizeList c).drop (6 + 1)).any (fun n => decide (n > 16384)) = true then (2 : Int) else if sumLen c.f6 > 16384 then 2 else 0) = R:=by
        have h:=HR.out
        have e : (sizeList c).drop 6 = c.f7.length :: (sizeList c).drop (6 + 1):=rfl
        rw [e,List.any_cons,decide_eq_false cb,Bool.false_or] at h
        exact h
       have hf : ∀ m ∈ (sizeList c).take (6 + 1),m ≤ 16384:=by
        have e : (sizeList c).take (6 + 1) = (sizeList c).take 6 ++ [c.f7.length]:=rfl
        intro m hm
        rw [e] at hm
        rcases List.mem_append.1 hm with hm|hm
        ·exact HF.out m hm
        ·rw [List.mem_singleton.1 hm]
         omega
       have HR9:=A0_.mk hr
       have HF9:=A0_.mk hf
       clear hr hf cb
       go_wp2
       repeat (go_quiet (fail);try go_wp2)
       go_roundg k1
       case measure => omega
       case rel => exact ⟨6 + 1,rfl,⟨by have:=HK.out;omega⟩,⟨by omega⟩,HR9,HF9,rfl⟩
     ·by_cases cb : c.f8.length > 16384
      ·have cbb : decide ((16384 : Int) < (c.f8.length : Int)) = true:=decide_eq_true (by omega)
       have hr : (2 : Int) = R:=by
        have h:=HR.out
        rw [if_pos (by simp [sizeList,cb])] at h
        exact h
       subst hr
       clear cb
       go_wp2
       repeat (go_quiet (fail);try go_wp2)
       go_ret
       exact ⟨rfl,eA_ (Below.refl _ _) _⟩
      ·have cbb : decide ((16384 : Int) < (c.f8.length : Int)) = false:=decide_eq_false (by omega)
       have hr : (if ((sizeList c).drop (7 + 1)).any (fun n => decide (n > 16384)) = true then (2 : Int) else if sumLen c.f6 > 16384 then 2 else 0) = R:=by
        have h:=HR.out
        have e : (sizeList c).drop 7 = c.f8.length :: (sizeList c).drop (7 + 1):=rfl
        rw [e,List.any_cons,decide_eq_false cb,Bool.false_or] at h
        exact h
       have hf : ∀ m ∈ (sizeList c).take (7 + 1),m ≤ 16384:=by
        have e : (sizeList c).take (7 + 1) = (sizeList c).take 7 ++ [c.f8.length]:=rfl
        intro m hm
        rw [e] at hm
        rcases List.mem_append.1 hm with hm|hm
        ·exact HF.out m hm
        ·rw [List.mem_singleton.1 hm]
         omega
       have HR9:=A0_.mk hr
       have HF9:=A0_.mk hf
       clear hr hf cb
       go_wp2
       repeat (go_quiet (fail);try go_wp2)
       go_roundg k1
       case measure => omega
       case rel => exact ⟨7 + 1,rfl,⟨by have:=HK.out;omega⟩,⟨by omega⟩,HR9,HF9,rfl⟩
     ·by_cases cb : c.f9.length > 16384
      ·have cbb : decide ((16384 : Int) < (c.f9.length : Int)) = true:=decide_eq_true (by omega)
       have hr : (2 : Int) = R:=by
        have h:=HR.out
        rw [if_pos (by simp [sizeList,cb])] at h
        exact h
       subst hr
       clear cb
       go_wp2
       repeat (go_quiet (fail);try go_wp2)
       go_ret
       exact ⟨rfl,eA_ (Below.refl _ _) _⟩
      ·have cbb : decide ((16384 : Int) < (c.f9.length : Int)) = false:=decide_eq_false (by omega)
       have hr : (if ((sizeList c).drop (8 + 1)).any (fun n => decide (n > 16384)) = true then (2 : Int) else if sumLen c.f6 > 16384 then 2 else 0) = R:=by
        have h:=HR.out
        have e : (sizeList c).drop 8 = c.f9.length :: (sizeList c).drop (8 + 1):=rfl
        rw [e,List.any_cons,decide_eq_false cb,Bool.false_or] at h
        exact h
       have hf : ∀ m ∈ (sizeList c).take (8 + 1),m ≤ 16384:=by
        have e : (sizeList c).take (8 + 1) = (sizeList c).take 8 ++ [c.f9.length]:=rfl
        intro m hm
        rw [e] at hm
        rcases List.mem_append.1 hm with hm|hm
        ·exact HF.out m hm
        ·rw [List.mem_singleton.1 hm]
         omega
       have HR9:=A0_.mk hr
       have HF9:=A0_.mk hf
       clear hr hf cb
       go_wp2
       repeat (go_quiet (fail);try go_wp2)
       go_roundg k1
       case measure => omega
       case rel => exact ⟨8 + 1,rfl,⟨by have:=HK.out;omega⟩,⟨by omega⟩,HR9,HF9,rfl⟩
     ·by_cases cb : c.f10.length > 16384
      ·have cbb : decide ((16384 : Int) < (c.f10.length : Int)) = true:=decide_eq_true (by omega)
       have hr : (2 : Int) = R:=by
        have h:=HR.out
        rw [if_pos (by simp [sizeList,cb])] at h
        exact h
       subst hr
       clear cb
       go_wp2
       repeat (go_quiet (fail);try go_wp2)
       go_ret
       exact ⟨rfl,eA_ (Below.refl _ _) _⟩
      ·have cbb : decide ((16384 : Int) < (c.f10.length : Int)) = false:=decide_eq_false (by omega)
       have hr : (if ((sizeList c).drop (9 + 1)).any (fun n => decide (n > 16384)) = true then (2 : Int) else if sumLen c.f6 > 16384 then 2 else 0) = R:=by
        have h:=HR.out
        have e : (sizeList c).drop 9 = c.f10.length :: (sizeList c).drop (9 + 1):=rfl
        rw [e,List.any_cons,decide_eq_false cb,Bool.false_or] at h
        exact h
       have hf : ∀ m ∈ (sizeList c).take (9 + 1),m ≤ 16384:=by
        have e : (sizeList c).take (9 + 1) = (sizeList c).take 9 ++ [c.f10.length]:=rfl
        intro m hm
        rw [e] at hm
        rcases List.mem_append.1 hm with hm|hm
        ·exact HF.out m hm
        ·rw [List.mem_singleton.1 hm]
         omega
       have HR9:=A0_.mk hr
       have HF9:=A0_.mk hf
       clear hr hf cb
       go_wp2
       repeat (go_quiet (fail);try go_wp2)
       go_roundg k1
       case measure => omega
       case rel => exact ⟨9 + 1,rfl,⟨by have:=HK.out;omega⟩,⟨by omega⟩,HR9,HF9,rfl⟩
     ·have hr : (if sumLen c.f6 > 16384 then (2 : Int) else 0) = R:=HR.out
      have hl6 : c.f6.length ≤ 16384:=HF.out _ (by simp [sizeList])
      have HL6:=A0_.mk hl6
      clear hl6
      have hblk : (w.alloc (.cells #[.int .i64 c.f0,.slice A1 c.f1.length c1,.slice A2 c.f2.length c2,.slice A3 c.f3.length c3,.slice A4 c.f4.length c4,.slice A5 c.f5.length c5,.slice A6 c.f6.length c6,.slice A7 c.f7.length c7,.slice A8 c.f8.length c8,.slice A9 c.f9.length c9,.slice A10 c.f10.length c10] 29)).heap[w.heap.size]? = some (.cells #[.int .i64 c.f0,.slice A1 c.f1.length c1,.slice A2 c.f2.length c2,.slice A3 c.f3.length c3,.slice A4 c.f4.length c4,.slice A5 c.f5.length c5,.slice A6 c.f6.length c6,.slice A7 c.f7.length c7,.slice A8 c.f8.length c8,.slice A9 c.f9.length c9,.slice A10 c.f10.length c10] 29 (0,0)):=blk_new w _
      have hbw : Below w.heap.size w (w.alloc (.cells #[.int .i64 c.f0,.slice A1 c.f1.length c1,.slice A2 c.f2.length c2,.slice A3 c.f3.length c3,.slice A4 c.f4.length c4,.slice A5 c.f5.length c5,.slice A6 c.f6.length c6,.slice A7 c.f7.length c7,.slice A8 c.f8.length c8,.slice A9 c.f9.length c9,.slice A10 c.f10.length c10] 29)):=eA_ (Below.refl _ _) _
      have HC9:=A0_.mk (HC.out.below hbw)
      have HBW:=A0_.mk hbw
      clear hbw
      generalize w.heap.size = g9 at hblk ⊢
      generalize w.alloc (.cells #[.int .i64 c.f0,.slice A1 c.f1.length c1,.slice A2 c.f2.length c2,.slice A3 c.f3.length c3,.slice A4 c.f4.length c4,.slice A5 c.f5.length c5,.slice A6 c.f6.length c6,.slice A7 c.f7.length c7,.slice A8 c.f8.length c8,.slice A9 c.f9.length c9,.slice A10 c.f10.length c10] 29) = w9 at hblk HC9 HBW ⊢
      have hw6 : w9.cell? ⟨g9,6,none⟩ = some (.slice A6 c.f6.length c6):=(bC_ hblk 6).trans rfl
      have HT : A0_ (shape_total.f (c.f6.length + 1) c.f6 = some (sumLen c.f6 : Int)):=⟨total_ev c.f6 HL6.out HJ.out c.f6.length 0 (by omega)⟩
      clear hblk
      by_cases cs : sumLen c.f6 > 16384
      ·rw [if_pos cs] at hr
       subst hr
       have csb : decide ((16384 : Int) < (sumLen c.f6 : Int)) = true:=decide_eq_true (by omega)
       go_wp2_with (first|((with_reducible refine gate_callee (f:=110) rfl ?_);refine goesL_ (some 52) rfl rfl Tryz.func110 (by kernel_rfl) rfl #[.slice A6 c.f6.length c6] rfl (by (try simp only [List.map_toArray,List.map_cons,List.map_nil]);first|done|rfl) ?_;(with_reducible refine (shape_total.calls (c.f6.length + 1) A6 c6 c.f6 _ w9 HC9.out.r6 H6.out HT.out).mono ?_);rintro e w2 ⟨rfl,hd⟩;refine ⟨_,rfl,?_⟩;have HBW2:=A0_.mk (HBW.out.trans (hd.below.mono HBW.out.size));clear hd)|go_in)
       repeat (go_quiet (fail);try go_wp2)
       go_ret
       exact ⟨rfl,HBW2.out⟩
      ·rw [if_neg cs] at hr
       subst hr
       have csb : decide ((16384 : Int) < (sumLen c.f6 : Int)) = false:=decide_eq_false (by omega)
       go_wp2_with (first|((with_reducible refine gate_callee (f:=110) rfl ?_);refine goesL_ (some 52) rfl rfl Tryz.func110 (by kernel_rfl) rfl #[.slice A6 c.f6.length c6] rfl (by (try simp only [List.map_toArray,List.map_cons,List.map_nil]);first|done|rfl) ?_;(with_reducible refine (shape_total.calls (c.f6.length + 1) A6 c6 c.f6 _ w9 HC9.out.r6 H6.out HT.out).mono ?_);rintro e w2 ⟨rfl,hd⟩;refine ⟨_,rfl,?_⟩;have HBW2:=A0_.mk (HBW.out.trans (hd.below.mono HBW.out.size));clear hd)|go_in)
       repeat (go_quiet (fail);try go_wp2)
       go_ret
       exact ⟨rfl,HBW2.out⟩
end Go.Proofs.YtdmngdohlobogaaGreatDoor.Asc

