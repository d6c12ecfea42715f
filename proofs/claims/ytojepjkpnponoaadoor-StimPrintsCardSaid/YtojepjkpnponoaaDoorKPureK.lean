import Derived.Test.YtojepjkpnponoaaDoorKPureC
set_option linter.unusedSimpArgs false
namespace Go.Proofs.YtojepjkpnponoaaDoor.Stim
open Go Go.RowKit Go.Proofs.YtojepjkpnponoaaDoorW.PrintWords
set_option linter.unusedVariables false
def propsSpec (l : List S83) : Int:=if l.length > 16384 then 2 else if l.length = 0 then 121 else propsLoop [] l
theorem props_f (l : List S83) : stim_props.f l = some (propsSpec l):=by
 unfold stim_props.f propsSpec
 split
 ·rfl
 ·split <;> rfl
def traceOK (init : List Bool) (ins : List (List Bool)) (loop la inn : Int) : Bool :=
 decide ((init.length : Int) = la) && decide (ins.length ≠ 0) && decide (ins.length ≤ 512) && decide (-1 ≤ loop) && decide (loop < (ins.length : Int)) && ins.all (fun r => decide ((r.length : Int) = inn))
def checkSpec (st : Int) (props : List S83) (init : List Bool) (ins : List (List Bool)) (loop la inn : Int) : Int :=
 if 0 ≤ la ∧ la ≤ 16384 ∧ 0 ≤ inn ∧ inn ≤ 16384 then
  (if st < 0 ∨ st > 2 then 120
  else if propsSpec props = 0 then
   (if st = 1 then (if traceOK init ins loop la inn = true then 0 else 4)
   else if init.length = 0 ∧ ins.length = 0 ∧ loop = 0 then 0 else 4)
  else propsSpec props)
 else 1
theorem check_loop (inn : Int) (ins : List (List Bool)) (hb : ins.length < 140737488355328) (m : Nat) : ∀ i,i + m = ins.length → Ev (fun k => stim_Check.l0 k inn ins (ins.length : Int) (i : Int)) (if (ins.drop i).all (fun r => decide ((r.length : Int) = inn)) = true then 0 else 4):=by
 induction m with
 |zero =>
  intro i hi
  refine Ev.succ (h:=fun _ => some _) (fun k => ?_) (Ev.const _)
  rw [stim_Check.l0,if_neg (by omega),List.drop_of_length_le (by omega)]
  rfl
 |succ m ih =>
  intro i hi
  have hlt : i < ins.length:=by omega
  rw [List.drop_eq_getElem_cons hlt,List.all_cons]
  by_cases he : (ins[i].length : Int) = inn
  ·refine Ev.succ (fun k => ?_) (by simpa [he] using ih (i + 1) (by omega))
   rw [stim_Check.l0,if_pos (by omega),if_pos (by omega),if_pos (by omega),rdL6 ins i hlt,if_pos he,wrapN i (by omega)]
   rfl
  ·refine Ev.succ (h:=fun _ => some _) (fun k => ?_) (Ev.const _)
   rw [stim_Check.l0,if_pos (by omega),if_pos (by omega),if_pos (by omega),rdL6 ins i hlt,if_neg he]
   simp [he]
theorem check_j1 (inn : Int) (bad : Bool) (init : List Bool) (ins : List (List Bool)) (loop : Int) (hb : ins.length < 140737488355328) : Ev (fun k => stim_Check.j1 k inn bad init ins loop) (if bad = true then 4 else if ins.all (fun r => decide ((r.length : Int) = inn)) = true then 0 else 4):=by
 cases bad with
 |true =>
  refine Ev.succ (h:=fun _ => some 4) (fun k => ?_) (Ev.const _)
  rw [stim_Check.j1,if_pos rfl]
 |false =>
  refine Ev.succ (fun k => ?_) (check_loop inn ins hb ins.length 0 (by omega))
  rw [stim_Check.j1,if_neg (by decide)]
  rfl
theorem sizedIs (a b : Int) : stim_sized.f a b = some (decide (0 ≤ a ∧ a ≤ 16384 ∧ 0 ≤ b ∧ b ≤ 16384)):=by
 unfold stim_sized.f
 repeat' split
 all_goals first
  |(rw [Option.some.injEq];symm;apply decide_eq_false;omega)
  |(rw [Option.some.injEq,Bool.eq_iff_iff];simp only [decide_eq_true_eq];omega)
theorem sizesIs (a b : Int) : trestleref12_sizes.f a b = some (decide (0 ≤ a ∧ a ≤ 16384 ∧ 0 ≤ b ∧ b ≤ 16384)):=by
 unfold trestleref12_sizes.f
 repeat' split
 all_goals first
  |(rw [Option.some.injEq];symm;apply decide_eq_false;omega)
  |(rw [Option.some.injEq,Bool.eq_iff_iff];simp only [decide_eq_true_eq];omega)
theorem check_j0 (la inn : Int) (st : Int) (props : List S83) (init : List Bool) (ins : List (List Bool)) (loop : Int) (hi : init.length < 140737488355328) (hb : ins.length < 140737488355328) :
  Ev (fun k => stim_Check.j0 k la inn false st props init ins loop) (if propsSpec props = 0 then (if st = 1 then (if traceOK init ins loop la inn = true then 0 else 4) else if init.length = 0 ∧ ins.length = 0 ∧ loop = 0 then 0 else 4) else propsSpec props):=by
 by_cases hp : propsSpec props = 0
 ·rw [if_pos hp]
  by_cases hs : st = 1
  ·rw [if_pos hs]
   have key : ∀ bad : Bool,(bad = true ∨ (traceOK init ins loop la inn = ins.all (fun r => decide ((r.length : Int) = inn)))) → (bad = true → traceOK init ins loop la inn = false) → (∀ k,stim_Check.j0 (k + 1) la inn false st props init ins loop = stim_Check.j1 k inn bad init ins loop) → Ev (fun k => stim_Check.j0 k la inn false st props init ins loop) (if traceOK init ins loop la inn = true then 0 else 4):=by
    intro bad h1 h2 h3
    have:=Ev.succ (g:=fun k => stim_Check.j0 k la inn false st props init ins loop) h3 (check_j1 inn bad init ins loop hb)
    cases bad with
    |true => rw [h2 rfl];simpa using this
    |false =>
     rcases h1 with h1|h1
     ·cases h1
     ·rw [h1];simpa using this
   have hj : ∀ k,stim_Check.j0 (k + 1) la inn false st props init ins loop = (if (init.length : Int) = la then (if (ins.length : Int) = 0 then (stim_Check.j1 k inn true init ins loop) else (if (ins.length : Int) > 512 then (stim_Check.j1 k inn true init ins loop) else (if loop < (-1) then (stim_Check.j1 k inn true init ins loop) else (stim_Check.j1 k inn (decide (loop ≥ (ins.length : Int))) init ins loop)))) else (stim_Check.j1 k inn true init ins loop)):=by
    intro k
    rw [stim_Check.j0,if_neg (by decide),props_f]
    simp only [Option.bind_some]
    rw [if_pos hp,if_pos hs]
   by_cases d1 : (init.length : Int) = la
   ·by_cases d2 : (ins.length : Int) = 0
    ·refine key true (.inl rfl) (fun _ => ?_) (fun k => by rw [hj,if_pos d1,if_pos d2])
     have : ins.length = 0:=by omega
     simp [traceOK,this]
    ·by_cases d3 : (ins.length : Int) > 512
     ·refine key true (.inl rfl) (fun _ => ?_) (fun k => by rw [hj,if_pos d1,if_neg d2,if_pos d3])
      have : ¬ ins.length ≤ 512:=by omega
      simp [traceOK,this]
     ·by_cases d4 : loop < -1
      ·refine key true (.inl rfl) (fun _ => ?_) (fun k => by rw [hj,if_pos d1,if_neg d2,if_neg d3,if_pos d4])
       have : ¬ -1 ≤ loop:=by omega
       simp [traceOK,this]
      ·by_cases d5 : loop ≥ (ins.length : Int)
       ·refine key true (.inl rfl) (fun _ => ?_) (fun k => by rw [hj,if_pos d1,if_neg d2,if_neg d3,if_neg d4,decide_eq_true d5])
        have : ¬ loop < (ins.length : Int):=by omega
        simp [traceOK,this]
       ·refine key false (.inr ?_) (fun h => by cases h) (fun k => by rw [hj,if_pos d1,if_neg d2,if_neg d3,if_neg d4,decide_eq_false d5])
        have e2 : ins.length ≠ 0:=by omega
        have e3 : ins.length ≤ 512:=by omega
        have e4 : -1 ≤ loop:=by omega
        have e5 : loop < (ins.length : Int):=by omega
        simp only [traceOK,decide_eq_true d1,decide_eq_true e2,decide_eq_true e3,decide_eq_true e4,decide_eq_true e5,Bool.true_and]
   ·refine key true (.inl rfl) (fun _ => ?_) (fun k => by rw [hj,if_neg d1])
    simp [traceOK,d1]
  ·rw [if_neg hs]
   refine Ev.succ (h:=fun _ => some _) (fun k => ?_) (Ev.const _)
   rw [stim_Check.j0,if_neg (by decide),props_f]
   simp only [Option.bind_some]
   rw [if_pos hp,if_neg hs,wrapS (by omega) (by omega)]
   by_cases d1 : init.length = 0 ∧ ins.length = 0
   ·rw [if_neg (by omega)]
    by_cases d2 : loop = 0
    ·rw [if_pos d2,if_pos ⟨d1.1,d1.2,d2⟩]
    ·rw [if_neg d2,if_neg (fun h => d2 h.2.2)]
   ·rw [if_pos (by omega),if_neg (fun h => d1 ⟨h.1,h.2.1⟩)]
 ·rw [if_neg hp]
  refine Ev.succ (h:=fun _ => some _) (fun k => ?_) (Ev.const _)
  rw [stim_Check.j0,if_neg (by decide),props_f]
  simp only [Option.bind_some]
  rw [if_neg hp]
theorem check_ev (st : Int) (props : List S83) (init : List Bool) (ins : List (List Bool)) (loop la inn : Int) (hi : init.length < 140737488355328) (hb : ins.length < 140737488355328) :
  Ev (fun k => stim_Check.f k st props init ins loop la inn) (checkSpec st props init ins loop la inn):=by
 unfold checkSpec
 by_cases hz : 0 ≤ la ∧ la ≤ 16384 ∧ 0 ≤ inn ∧ inn ≤ 16384
 ·rw [if_pos hz]
  have hf : ∀ k,stim_Check.f k st props init ins loop la inn = stim_Check.j0 k la inn (decide (st < 0 ∨ st > 2)) st props init ins loop:=by
   intro k
   unfold stim_Check.f
   rw [sizedIs,decide_eq_true hz]
   simp only [Option.bind_some,if_true]
   by_cases h0 : st < 0
   ·rw [if_pos h0,decide_eq_true (.inl h0)]
   ·rw [if_neg h0]
    congr 1
    simp [h0]
  by_cases hs : st < 0 ∨ st > 2
  ·rw [if_pos hs]
   refine Ev.congr hf (Ev.succ (h:=fun _ => some 120) (fun k => ?_) (Ev.const _))
   rw [decide_eq_true hs,stim_Check.j0,if_pos rfl]
  ·rw [if_neg hs]
   refine Ev.congr (fun k => by rw [hf,decide_eq_false hs]) (check_j0 la inn st props init ins loop hi hb)
 ·rw [if_neg hz]
  refine Ev.congr (fun k => ?_) (Ev.const 1)
  unfold stim_Check.f
  rw [sizedIs,decide_eq_false hz]
  rfl
def isProp (p q : S83) : Bool:=q.f0 == p.f0 && q.f1 == p.f1
theorem any_same (l : List S83) (p : S83) : l.any (same83 p) = l.any (isProp p):=by
 congr 1
 funext q
 unfold same83 isProp
 rw [Bool.beq_comm,Bool.beq_comm (a:=p.f1)]
theorem ref_l1 (l : List S83) (hl : l.length < 140737488355328) (i : Nat) (hi : i < l.length) (r : Int) (m : Nat) : ∀ j,j + m = i → Ev (fun k => r12_props.l0 k l ((i + 1 : Nat) : Int)) r → Ev (fun k => r12_props.l1 k l (i : Int) (j : Int) l[i].f0 l[i].f1) (if ((l.take i).drop j).any (isProp l[i]) = true then 121 else r):=by
 induction m with
 |zero =>
  intro j hj hr
  rw [List.drop_of_length_le (by simp;omega)]
  refine Ev.succ (fun k => ?_) hr
  rw [r12_props.l1,if_neg (by omega),wrapN i (by omega)]
 |succ m ih =>
  intro j hj hr
  have hjl : j < l.length:=by omega
  have hd : (l.take i).drop j = l[j] :: (l.take i).drop (j + 1):=by
   rw [List.drop_eq_getElem_cons (by simp;omega)]
   simp
  rw [hd,List.any_cons]
  cases hb : isProp l[i] l[j] with
  |true =>
   refine Ev.succ (h:=fun _ => some _) (fun k => ?_) (Ev.const _)
   rw [r12_props.l1,if_pos (by omega),if_pos (by omega),if_pos (by omega),rdT83 l j hjl,if_pos (show (l[j].f0 == l[i].f0 && l[j].f1 == l[i].f1) = true from hb)]
   simp
  |false =>
   refine Ev.succ (fun k => ?_) (by simpa using ih (j + 1) (by omega) hr)
   rw [r12_props.l1,if_pos (by omega),if_pos (by omega),if_pos (by omega),rdT83 l j hjl,if_neg (by rw [show (l[j].f0 == l[i].f0 && l[j].f1 == l[i].f1) = isProp l[i] l[j] from rfl,hb];decide),wrapN j (by omega)]
   rfl
theorem ref_props (l : List S83) (hl : l.length < 140737488355328) (m : Nat) : ∀ i,i + m = l.length → Ev (fun k => r12_props.l0 k l (i : Int)) (propsLoop (l.take i) (l.drop i)):=by
 induction m with
 |zero =>
  intro i hi
  rw [List.drop_of_length_le (by omega)]
  refine Ev.succ (h:=fun _ => some _) (fun k => ?_) (Ev.const _)
  rw [r12_props.l0,if_neg (by omega)]
  rfl
 |succ m ih =>
  intro i hi
  have hlt : i < l.length:=by omega
  have hr:=ih (i + 1) (by omega)
  rw [List.drop_eq_getElem_cons hlt]
  have hstep : propsLoop (l.take i) (l[i] :: l.drop (i + 1)) = if propFits l[i] = true then (if ((l.take i).drop 0).any (isProp l[i]) = true then 121 else propsLoop (l.take (i + 1)) (l.drop (i + 1))) else 121:=by
   conv => lhs;unfold propsLoop
   rw [any_same,List.drop_zero,← List.take_succ_eq_append_getElem hlt]
   cases propFits l[i] <;> cases (l.take i).any (isProp l[i]) <;> simp
  rw [hstep]
  have key : ∀ bad : Bool,bad = !propFits l[i] → (∀ k,r12_props.l0 (k + 1) l (i : Int) = r12_props.j1 k l (i : Int) bad l[i].f0 l[i].f1) → Ev (fun k => r12_props.l0 k l (i : Int)) (if propFits l[i] = true then (if ((l.take i).drop 0).any (isProp l[i]) = true then 121 else propsLoop (l.take (i + 1)) (l.drop (i + 1))) else 121):=by
   intro bad hb h3
   refine Ev.succ (g:=fun k => r12_props.l0 k l (i : Int)) h3 ?_
   cases bad with
   |true =>
    rw [if_neg (by intro h;rw [h] at hb;cases hb)]
    refine Ev.succ (h:=fun _ => some 121) (fun k => ?_) (Ev.const _)
    rw [r12_props.j1,if_pos rfl]
   |false =>
    have hpf : propFits l[i] = true:=by
     cases h : propFits l[i] with
     |true => rfl
     |false => rw [h] at hb;cases hb
    rw [if_pos hpf]
    refine Ev.succ (fun k => ?_) (ref_l1 l hl i hlt _ i 0 (by omega) hr)
    rw [r12_props.j1,if_neg (by decide)]
    rfl
  have hj : ∀ k,r12_props.l0 (k + 1) l (i : Int) = (if l[i].f0 = 98 then (if l[i].f1 < 0 then (r12_props.j1 k l (i : Int) true l[i].f0 l[i].f1) else (r12_props.j1 k l (i : Int) (decide (l[i].f1 ≥ 16384)) l[i].f0 l[i].f1)) else (if l[i].f0 = 106 then (if l[i].f1 < 0 then (r12_props.j1 k l (i : Int) true l[i].f0 l[i].f1) else (r12_props.j1 k l (i : Int) (decide (l[i].f1 ≥ 16384)) l[i].f0 l[i].f1)) else (r12_props.j1 k l (i : Int) true l[i].f0 l[i].f1))):=by
   intro k
   rw [r12_props.l0,if_pos (by omega),if_pos (by omega),rdT83 l i hlt]
  by_cases d1 : l[i].f0 = 98
  ·by_cases d2 : l[i].f1 < 0
   ·exact key true (by simp [propFits,d2]) (fun k => by rw [hj,if_pos d1,if_pos d2])
   ·exact key (decide (l[i].f1 ≥ 16384)) (by unfold propFits;rw [d1,decide_eq_false d2];simp) (fun k => by rw [hj,if_pos d1,if_neg d2])
  ·by_cases d3 : l[i].f0 = 106
   ·by_cases d2 : l[i].f1 < 0
    ·exact key true (by simp [propFits,d2]) (fun k => by rw [hj,if_neg d1,if_pos d3,if_pos d2])
    ·exact key (decide (l[i].f1 ≥ 16384)) (by unfold propFits;rw [d3,decide_eq_false d2];simp) (fun k => by rw [hj,if_neg d1,if_pos d3,if_neg d2])
   ·exact key true (by simp [propFits,d1,d3]) (fun k => by rw [hj,if_neg d1,if_neg d3])
theorem ref_props_ev (l : List S83) (hl : l.length < 140737488355328) : Ev (fun k => r12_props.f k l) (propsSpec l):=by
 unfold propsSpec
 by_cases h1 : l.length > 16384
 ·rw [if_pos h1]
  refine Ev.congr (fun k => ?_) (Ev.const 2)
  unfold r12_props.f
  rw [if_pos (by omega)]
 ·rw [if_neg h1]
  by_cases h2 : l.length = 0
  ·rw [if_pos h2]
   refine Ev.congr (fun k => ?_) (Ev.const 121)
   unfold r12_props.f
   rw [if_neg (by omega),if_pos (by omega)]
  ·rw [if_neg h2]
   refine Ev.congr (fun k => ?_) (ref_props l hl l.length 0 (by omega))
   unfold r12_props.f
   rw [if_neg (by omega),if_neg (by omega)]
   rfl
theorem ref_tl (inn : Int) (init : List Bool) (ins : List (List Bool)) (loop : Int) (hb : ins.length < 140737488355328) (m : Nat) : ∀ i,i + m = ins.length → Ev (fun k => r12_trace.l0 k inn (ins.length : Int) (i : Int) init ins loop) ((ins.drop i).all (fun r => decide ((r.length : Int) = inn))):=by
 induction m with
 |zero =>
  intro i hi
  refine Ev.succ (h:=fun _ => some _) (fun k => ?_) (Ev.const _)
  rw [r12_trace.l0,if_neg (by omega),List.drop_of_length_le (by omega)]
  rfl
 |succ m ih =>
  intro i hi
  have hlt : i < ins.length:=by omega
  rw [List.drop_eq_getElem_cons hlt,List.all_cons]
  by_cases he : (ins[i].length : Int) = inn
  ·refine Ev.succ (fun k => ?_) (by simpa [he] using ih (i + 1) (by omega))
   rw [r12_trace.l0,if_pos (by omega),if_pos (by omega),if_pos (by omega),rdL6 ins i hlt,if_pos he,wrapN i (by omega)]
   rfl
  ·refine Ev.succ (h:=fun _ => some _) (fun k => ?_) (Ev.const _)
   rw [r12_trace.l0,if_pos (by omega),if_pos (by omega),if_pos (by omega),rdL6 ins i hlt,if_neg he]
   simp [he]
theorem ref_tj (la inn : Int) (bad : Bool) (init : List Bool) (ins : List (List Bool)) (loop : Int) (hb : ins.length < 140737488355328) : Ev (fun k => r12_trace.j0 k inn (ins.length : Int) bad init ins loop) (!bad && ins.all (fun r => decide ((r.length : Int) = inn))):=by
 cases bad with
 |true =>
  refine Ev.succ (h:=fun _ => some false) (fun k => ?_) (Ev.const _)
  rw [r12_trace.j0,if_pos rfl]
 |false =>
  refine Ev.succ (fun k => ?_) (ref_tl inn init ins loop hb ins.length 0 (by omega))
  rw [r12_trace.j0,if_neg (by decide)]
  rfl
theorem ref_trace_ev (la inn : Int) (init : List Bool) (ins : List (List Bool)) (loop : Int) (hb : ins.length < 140737488355328) : Ev (fun k => r12_trace.f k init ins loop la inn) (traceOK init ins loop la inn):=by
 have key : ∀ bad : Bool,traceOK init ins loop la inn = (!bad && ins.all (fun r => decide ((r.length : Int) = inn))) → (∀ k,r12_trace.f k init ins loop la inn = r12_trace.j0 k inn (ins.length : Int) bad init ins loop) → Ev (fun k => r12_trace.f k init ins loop la inn) (traceOK init ins loop la inn):=by
  intro bad h1 h2
  rw [h1]
  exact Ev.congr h2 (ref_tj la inn bad init ins loop hb)
 by_cases d1 : (init.length : Int) = la
 ·by_cases d2 : (ins.length : Int) < 1
  ·refine key true ?_ (fun k => by unfold r12_trace.f;rw [if_pos d1,if_pos d2])
   have : ins.length = 0:=by omega
   simp [traceOK,this]
  ·by_cases d3 : (ins.length : Int) > 512
   ·refine key true ?_ (fun k => by unfold r12_trace.f;rw [if_pos d1,if_neg d2,if_pos d3])
    have : ¬ ins.length ≤ 512:=by omega
    simp [traceOK,this]
   ·by_cases d4 : loop < -1
    ·refine key true ?_ (fun k => by unfold r12_trace.f;rw [if_pos d1,if_neg d2,if_neg d3,if_pos d4])
     have : ¬ -1 ≤ loop:=by omega
     simp [traceOK,this]
    ·refine key (decide (loop ≥ (ins.length : Int))) ?_ (fun k => by unfold r12_trace.f;rw [if_pos d1,if_neg d2,if_neg d3,if_neg d4])
     have e2 : ins.length ≠ 0:=by omega
     have e3 : ins.length ≤ 512:=by omega
     have e4 : -1 ≤ loop:=by omega
     by_cases d5 : loop ≥ (ins.length : Int)
     ·have : ¬ loop < (ins.length : Int):=by omega
      simp [traceOK,this,d5]
     ·have e5 : loop < (ins.length : Int):=by omega
      simp only [traceOK,decide_eq_true d1,decide_eq_true e2,decide_eq_true e3,decide_eq_true e4,decide_eq_true e5,decide_eq_false d5,Bool.true_and,Bool.not_false]
 ·refine key true ?_ (fun k => by unfold r12_trace.f;rw [if_neg d1])
  simp [traceOK,d1]
theorem ref_j0 (la inn : Int) (st : Int) (props : List S83) (init : List Bool) (ins : List (List Bool)) (loop : Int) (hp0 : props.length < 140737488355328) (hb : ins.length < 140737488355328) :
  Ev (fun k => trestleref12_Check.j0 k la inn false st props init ins loop) (if propsSpec props = 0 then (if st = 1 then (if traceOK init ins loop la inn = true then 0 else 4) else if init.length = 0 ∧ ins.length = 0 ∧ loop = 0 then 0 else 4) else propsSpec props):=by
 have ht:=Ev.bind (g:=fun _ t => if t = true then some (0 : Int) else some 4) (ref_trace_ev la inn init ins loop hb) (Ev.const (if traceOK init ins loop la inn = true then 0 else 4) |> Ev.congr (fun k => by cases traceOK init ins loop la inn <;> rfl))
 refine Ev.succ (h:=fun k => (r12_props.f k props).bind fun t => if t = 0 then (if st = 1 then ((r12_trace.f k init ins loop la inn).bind fun t => if t = true then some 0 else some 4) else (if init.length = 0 ∧ ins.length = 0 ∧ loop = 0 then some 0 else some 4)) else some t) (fun k => ?_) (Ev.bind (ref_props_ev props hp0) ?_)
 ·rw [trestleref12_Check.j0,if_neg (by decide)]
  congr 1
  funext t
  by_cases h0 : t = 0
  ·rw [if_pos h0,if_pos h0]
   by_cases d1 : init.length = 0
   ·rw [if_pos (by omega)]
    by_cases d2 : ins.length = 0
    ·rw [if_pos (by omega)]
     by_cases d3 : st = 1
     ·rw [if_pos d3,if_pos d3]
     ·rw [if_neg d3,if_neg d3]
      by_cases d4 : loop = 0
      ·rw [if_pos d4,if_pos ⟨d1,d2,d4⟩]
      ·rw [if_neg d4,if_neg (fun h => d4 h.2.2)]
    ·rw [if_neg (by omega)]
     by_cases d3 : st = 1
     ·rw [if_pos d3,if_pos d3]
     ·rw [if_neg d3,if_neg d3,if_neg (fun h => d2 h.2.1)]
   ·rw [if_neg (by omega)]
    by_cases d3 : st = 1
    ·rw [if_pos d3,if_pos d3]
    ·rw [if_neg d3,if_neg d3,if_neg (fun h => d1 h.1)]
  ·rw [if_neg h0,if_neg h0]
 ·by_cases hp : propsSpec props = 0
  ·rw [if_pos hp]
   by_cases hs : st = 1
   ·rw [if_pos hs]
    exact Ev.congr (fun k => by rw [if_pos hp,if_pos hs]) ht
   ·rw [if_neg hs]
    refine Ev.congr (fun k => ?_) (Ev.const _)
    rw [if_pos hp,if_neg hs]
    split <;> rfl
  ·rw [if_neg hp]
   exact Ev.congr (fun k => by rw [if_neg hp]) (Ev.const _)
theorem ref_check_ev (st : Int) (props : List S83) (init : List Bool) (ins : List (List Bool)) (loop la inn : Int) (hp0 : props.length < 140737488355328) (hb : ins.length < 140737488355328) :
  Ev (fun k => trestleref12_Check.f k st props init ins loop la inn) (checkSpec st props init ins loop la inn):=by
 unfold checkSpec
 by_cases hz : 0 ≤ la ∧ la ≤ 16384 ∧ 0 ≤ inn ∧ inn ≤ 16384
 ·rw [if_pos hz]
  have hf : ∀ k,trestleref12_Check.f k st props init ins loop la inn = trestleref12_Check.j0 k la inn (decide (st < 0 ∨ st > 2)) st props init ins loop:=by
   intro k
   unfold trestleref12_Check.f
   rw [sizesIs,decide_eq_true hz]
   simp only [Option.bind_some,if_true]
   by_cases h0 : st < 0
   ·rw [if_pos h0,decide_eq_true (.inl h0)]
   ·rw [if_neg h0]
    congr 1
    simp [h0]
  by_cases hs : st < 0 ∨ st > 2
  ·rw [if_pos hs]
   refine Ev.congr hf (Ev.succ (h:=fun _ => some 120) (fun k => ?_) (Ev.const _))
   rw [decide_eq_true hs,trestleref12_Check.j0,if_pos rfl]
  ·rw [if_neg hs]
   refine Ev.congr (fun k => by rw [hf,decide_eq_false hs]) (ref_j0 la inn st props init ins loop hp0 hb)
 ·rw [if_neg hz]
  refine Ev.congr (fun k => ?_) (Ev.const 1)
  unfold trestleref12_Check.f
  rw [sizesIs,decide_eq_false hz]
  rfl
end Go.Proofs.YtojepjkpnponoaaDoor.Stim

