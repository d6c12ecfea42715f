import Derived.Test.YtojepjkpnponoaaDoorFPureC
set_option linter.unusedSimpArgs false
namespace Go.Proofs.YtojepjkpnponoaaDoor.Stim
open Go Go.RowKit Go.Proofs.YtojepjkpnponoaaDoorW.PrintWords
set_option linter.unusedVariables false
def propsSpec (l : List S83) : Int:=if l.length > 16384 then 2 else if l.length = 0 then 121 else propsLoop [] l
theorem props_f (l : List S83) : stim_props.f l = some (propsSpec l):=by
 unfold stim_props.f propsSpec
 split
 ·rfl
 ·split <;> rfl
def traceOK (init : List Bool) (ins : List (List Bool)) (loop la inn : Int) : Bool :=
 decide ((init.length : Int) = la) && decide (ins.length ≠ 0) && decide (ins.length ≤ 512) && decide (-1 ≤ loop) && decide (loop < (ins.length : Int)) && ins.all (fun r => decide ((r.length : Int) = inn))
def checkSpec (st : Int) (props : List S83) (init : List Bool) (ins : List (List Bool)) (loop la inn : Int) : Int :=
 if 0 ≤ la ∧ la ≤ 16384 ∧ 0 ≤ inn ∧ inn ≤ 16384 then
  (if st < 0 ∨ st > 2 then 120
  else if propsSpec props = 0 then
   (if st = 1 then (if traceOK init ins loop la inn = true then 0 else 4)
   else if init.length = 0 ∧ ins.length = 0 ∧ loop = 0 then 0 else 4)
  else propsSpec props)
 else 1
theorem check_loop (inn : Int) (ins : List (List Bool)) (hb : ins.length < 140737488355328) (m : Nat) : ∀ i,i + m = ins.length → Ev (fun k => stim_Check.l0 k inn ins (ins.length : Int) (i : Int)) (if (ins.drop i).all (fun r => decide ((r.length : Int) = inn)) = true then 0 else 4):=by
 induction m with
 |zero =>
  intro i hi
  refine Ev.succ (h:=fun _ => some _) (fun k => ?_) (Ev.const _)
  rw [stim_Check.l0,if_neg (by omega),List.drop_of_length_le (by omega)]
  rfl
 |succ m ih =>
  intro i hi
  have hlt : i < ins.length:=by omega
  rw [List.drop_eq_getElem_cons hlt,List.all_cons]
  by_cases he : (ins[i].length : Int) = inn
  ·refine Ev.succ (fun k => ?_) (by simpa [he] using ih (i + 1) (by omega))
   rw [stim_Check.l0,if_pos (by omega),if_pos (by omega),if_pos (by omega),rdL6 ins i hlt,if_pos he,wrapN i (by omega)]
   rfl
  ·refine Ev.succ (h:=fun _ => some _) (fun k => ?_) (Ev.const _)
   rw [stim_Check.l0,if_pos (by omega),if_pos (by omega),if_pos (by omega),rdL6 ins i hlt,if_neg he]
   simp [he]
theorem check_j1 (inn : Int) (bad : Bool) (init : List Bool) (ins : List (List Bool)) (loop : Int) (hb : ins.length < 140737488355328) : Ev (fun k => stim_Check.j1 k inn bad init ins loop) (if bad = true then 4 else if ins.all (fun r => decide ((r.length : Int) = inn)) = true then 0 else 4):=by
 cases bad with
 |true =>
  refine Ev.succ (h:=fun _ => some 4) (fun k => ?_) (Ev.const _)
  rw [stim_Check.j1,if_pos rfl]
 |false =>
  refine Ev.succ (fun k => ?_) (check_loop inn ins hb ins.length 0 (by omega))
  rw [stim_Check.j1,if_neg (by decide)]
  rfl
theorem sizedIs (a b : Int) : stim_sized.f a b = some (decide (0 ≤ a ∧ a ≤ 16384 ∧ 0 ≤ b ∧ b ≤ 16384)):=by
 unfold stim_sized.f
 repeat' split
 all_goals first
  |(rw [Option.some.injEq];symm;apply decide_eq_false;omega)
  |(rw [Option.some.injEq,Bool.eq_iff_iff];simp only [decide_eq_true_eq];omega)
theorem check_j0 (la inn : Int) (st : Int) (props : List S83) (init : List Bool) (ins : List (List Bool)) (loop : Int) (hi : init.length < 140737488355328) (hb : ins.length < 140737488355328) :
  Ev (fun k => stim_Check.j0 k la inn false st props init ins loop) (if propsSpec props = 0 then (if st = 1 then (if traceOK init ins loop la inn = true then 0 else 4) else if init.length = 0 ∧ ins.length = 0 ∧ loop = 0 then 0 else 4) else propsSpec props):=by
 by_cases hp : propsSpec props = 0
 ·rw [if_pos hp]
  by_cases hs : st = 1
  ·rw [if_pos hs]
   have key : ∀ bad : Bool,(bad = true ∨ (traceOK init ins loop la inn = ins.all (fun r => decide ((r.length : Int) = inn)))) → (bad = true → traceOK init ins loop la inn = false) → (∀ k,stim_Check.j0 (k + 1) la inn false st props init ins loop = stim_Check.j1 k inn bad init ins loop) → Ev (fun k => stim_Check.j0 k la inn false st props init ins loop) (if traceOK init ins loop la inn = true then 0 else 4):=by
    intro bad h1 h2 h3
    have:=Ev.succ (g:=fun k => stim_Check.j0 k la inn false st props init ins loop) h3 (check_j1 inn bad init ins loop hb)
    cases bad with
    |true => rw [h2 rfl];simpa using this
    |false =>
     rcases h1 with h1|h1
     ·cases h1
     ·rw [h1];simpa using this
   have hj : ∀ k,stim_Check.j0 (k + 1) la inn false st props init ins loop = (if (init.length : Int) = la then (if (ins.length : Int) = 0 then (stim_Check.j1 k inn true init ins loop) else (if (ins.length : Int) > 512 then (stim_Check.j1 k inn true init ins loop) else (if loop < (-1) then (stim_Check.j1 k inn true init ins loop) else (stim_Check.j1 k inn (decide (loop ≥ (ins.length : Int))) init ins loop)))) else (stim_Check.j1 k inn true init ins loop)):=by
    intro k
    rw [stim_Check.j0,if_neg (by decide),props_f]
    simp only [Option.bind_some]
    rw [if_pos hp,if_pos hs]
   by_cases d1 : (init.length : Int) = la
   ·by_cases d2 : (ins.length : Int) = 0
    ·refine key true (.inl rfl) (fun _ => ?_) (fun k => by rw [hj,if_pos d1,if_pos d2])
     have : ins.length = 0:=by omega
     simp [traceOK,this]
    ·by_cases d3 : (ins.length : Int) > 512
     ·refine key true (.inl rfl) (fun _ => ?_) (fun k => by rw [hj,if_pos d1,if_neg d2,if_pos d3])
      have : ¬ ins.length ≤ 512:=by omega
      simp [traceOK,this]
     ·by_cases d4 : loop < -1
      ·refine key true (.inl rfl) (fun _ => ?_) (fun k => by rw [hj,if_pos d1,if_neg d2,if_neg d3,if_pos d4])
       have : ¬ -1 ≤ loop:=by omega
       simp [traceOK,this]
      ·by_cases d5 : loop ≥ (ins.length : Int)
       ·refine key true (.inl rfl) (fun _ => ?_) (fun k => by rw [hj,if_pos d1,if_neg d2,if_neg d3,if_neg d4,decide_eq_true d5])
        have : ¬ loop < (ins.length : Int):=by omega
        simp [traceOK,this]
       ·refine key false (.inr ?_) (fun h => by cases h) (fun k => by rw [hj,if_pos d1,if_neg d2,if_neg d3,if_neg d4,decide_eq_false d5])
        have e2 : ins.length ≠ 0:=by omega
        have e3 : ins.length ≤ 512:=by omega
        have e4 : -1 ≤ loop:=by omega
        have e5 : loop < (ins.length : Int):=by omega
        simp only [traceOK,decide_eq_true d1,decide_eq_true e2,decide_eq_true e3,decide_eq_true e4,decide_eq_true e5,Bool.true_and]
   ·refine key true (.inl rfl) (fun _ => ?_) (fun k => by rw [hj,if_neg d1])
    simp [traceOK,d1]
  ·rw [if_neg hs]
   refine Ev.succ (h:=fun _ => some _) (fun k => ?_) (Ev.const _)
   rw [stim_Check.j0,if_neg (by decide),props_f]
   simp only [Option.bind_some]
   rw [if_pos hp,if_neg hs,wrapS (by omega) (by omega)]
   by_cases d1 : init.length = 0 ∧ ins.length = 0
   ·rw [if_neg (by omega)]
    by_cases d2 : loop = 0
    ·rw [if_pos d2,if_pos ⟨d1.1,d1.2,d2⟩]
    ·rw [if_neg d2,if_neg (fun h => d2 h.2.2)]
   ·rw [if_pos (by omega),if_neg (fun h => d1 ⟨h.1,h.2.1⟩)]
 ·rw [if_neg hp]
  refine Ev.succ (h:=fun _ => some _) (fun k => ?_) (Ev.const _)
  rw [stim_Check.j0,if_neg (by decide),props_f]
  simp only [Option.bind_some]
  rw [if_neg hp]
theorem check_ev (st : Int) (props : List S83) (init : List Bool) (ins : List (List Bool)) (loop la inn : Int) (hi : init.length < 140737488355328) (hb : ins.length < 140737488355328) :
  Ev (fun k => stim_Check.f k st props init ins loop la inn) (checkSpec st props init ins loop la inn):=by
 unfold checkSpec
 by_cases hz : 0 ≤ la ∧ la ≤ 16384 ∧ 0 ≤ inn ∧ inn ≤ 16384
 ·rw [if_pos hz]
  have hf : ∀ k,stim_Check.f k st props init ins loop la inn = stim_Check.j0 k la inn (decide (st < 0 ∨ st > 2)) st props init ins loop:=by
   intro k
   unfold stim_Check.f
   rw [sizedIs,decide_eq_true hz]
   simp only [Option.bind_some,if_true]
   by_cases h0 : st < 0
   ·rw [if_pos h0,decide_eq_true (.inl h0)]
   ·rw [if_neg h0]
    congr 1
    simp [h0]
  by_cases hs : st < 0 ∨ st > 2
  ·rw [if_pos hs]
   refine Ev.congr hf (Ev.succ (h:=fun _ => some 120) (fun k => ?_) (Ev.const _))
   rw [decide_eq_true hs,stim_Check.j0,if_pos rfl]
  ·rw [if_neg hs]
   refine Ev.congr (fun k => by rw [hf,decide_eq_false hs]) (check_j0 la inn st props init ins loop hi hb)
 ·rw [if_neg hz]
  refine Ev.congr (fun k => ?_) (Ev.const 1)
  unfold stim_Check.f
  rw [sizedIs,decide_eq_false hz]
  rfl
end Go.Proofs.YtojepjkpnponoaaDoor.Stim

