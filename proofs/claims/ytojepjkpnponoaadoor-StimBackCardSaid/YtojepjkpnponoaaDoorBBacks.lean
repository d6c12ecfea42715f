import Derived.Test.YtojepjkpnponoaaDoorBReads
import Derived.Test.YtojepjkpnponoaaDoorBPureP
set_option linter.unusedSimpArgs false
namespace Go.Proofs.YtojepjkpnponoaaDoor.Stim
open Go Go.RowKit Go.Proofs.YtojepjkpnponoaaDoorW.PrintWords
set_option linter.unusedVariables false
def dig (b : Bool) : UInt8:=if b then 49 else 48
theorem rowBytes_dig (r : List Bool) : rowBytes r = r.map dig ++ [10]:=rfl
theorem dig_no (r : List Bool) (c : UInt8) (h : c ≠ 48 ∧ c ≠ 49) : c ∉ r.map dig:=by
  simp only [List.mem_map,not_exists,not_and]
  rintro b _ rfl
  cases b
  · exact h.1 rfl
  · exact h.2 rfl
theorem stRead_itoa (st : Int) (h0 : 0 ≤ st) (h2 : st ≤ 2) : stRead (Lib.itoa st) = some st:=by
  have : st = 0 ∨ st = 1 ∨ st = 2:=by omega
  rcases this with rfl|rfl|rfl <;> decide +kernel
theorem propsSpec_fits {ps : List S83} (h : propsSpec ps = 0) : ps ≠ [] ∧ ps.length ≤ 16384 ∧ ∀ p ∈ ps,(p.f0 = 98 ∨ p.f0 = 106) ∧ 0 ≤ p.f1 ∧ p.f1 < 16384:=by
  unfold propsSpec at h
  split at h
  · cases h
  · split at h
    · cases h
    · rename_i h1 h2
      refine ⟨fun e => h2 (by rw [e];rfl),by omega,fun p hp => ?_⟩
      have:=propsLoop_fits ps _ h p hp
      simp only [propFits,Bool.and_eq_true,Bool.or_eq_true,beq_iff_eq,Bool.not_eq_true',decide_eq_false_iff_not] at this
      omega
theorem word_no (p : S83) (h : (p.f0 = 98 ∨ p.f0 = 106) ∧ 0 ≤ p.f1 ∧ p.f1 < 16384) (c : UInt8) (hc : c.toNat < 48) : c ∉ wordOf p:=by
  unfold wordOf
  simp only [List.mem_cons,not_or]
  refine ⟨fun e => ?_,itoa_no p.f1 h.2.1 c hc⟩
  subst e
  rcases h.1 with e|e <;> rw [e] at hc <;> exact absurd hc (by decide)
theorem joined_no (c : UInt8) (hc : c ≠ 32) : ∀ fs : List (List UInt8),(∀ f ∈ fs,c ∉ f) → c ∉ joined fs
  | [],_ => by simp [joined]
  | [f],h => h f (by simp)
  | f :: g :: fs,h => by
    rw [joined]
    simp only [List.mem_append,List.mem_cons,not_or]
    exact ⟨h f (by simp),hc,joined_no c hc (g :: fs) fun x hx => h x (by simp [hx])⟩
theorem props_line {ps : List S83} (h : propsSpec ps = 0) : 10 ∉ propsBytes ps ∧ propsRead (propsBytes ps) = some ps:=by
  obtain ⟨h0,h1,h2⟩:=propsSpec_fits h
  have hw : ∀ (c : UInt8),c.toNat < 48 → ∀ f ∈ ps.map wordOf,c ∉ f:=by
    intro c hc f hf
    obtain ⟨p,hp,rfl⟩:=List.mem_map.1 hf
    exact word_no p (h2 p hp) c hc
  rw [props_joined ps h0]
  refine ⟨joined_no 10 (by decide) _ (hw 10 (by decide)),?_⟩
  unfold propsRead
  rw [joined_frags _ (by simpa using h0) (hw 32 (by decide)),propsOf_words ps fun p hp => by
    have:=h2 p hp
    omega]
  simp only [Option.bind_some,if_pos h]
theorem loopRead_at (n : Int) (h0 : 0 ≤ n) (m : Nat) (hm : n < (m : Int)) (h1 : m ≤ 512) : loopRead (loopWord ++ Lib.itoa n) m = some n:=by
  have e1 : (loopWord ++ Lib.itoa n).take 7 = loopWord:=by simp [loopWord]
  have e2 : (loopWord ++ Lib.itoa n).drop 7 = Lib.itoa n:=by simp [loopWord]
  unfold loopRead
  rw [e1,e2,num_itoa n h0 (by omega),if_pos ⟨rfl,rfl,hm⟩]
theorem loopRead_dig (r : List Bool) (m : Nat) : loopRead (r.map dig) m = none:=by
  unfold loopRead
  rw [if_neg]
  rintro ⟨h,_⟩
  have : (99 : UInt8) ∈ (r.map dig).take 7:=by rw [h];decide
  exact dig_no r 99 (by decide) (List.mem_of_mem_take this)
theorem rowRead_dig (r : List Bool) (n : Int) (h : (r.length : Int) = n) : rowRead n (r.map dig) = some r:=by
  unfold rowRead
  rw [if_pos (by rw [List.length_map];exact h)]
  exact row_bytes r
theorem nl_point (R : List UInt8) : nl (46 :: 10 :: R) = some ([46],R):=by simp [nl]
theorem point_at (st : Int) (ps : List S83) (init : List Bool) (ins : List (List Bool)) (loop : Int) (R : List UInt8) : pointRead st ps init ins loop (46 :: 10 :: R) = ((st,ps,init,ins,loop),0,R):=by
  unfold pointRead
  rw [nl_point]
  simp
theorem run_there (inn loop : Int) (R : List UInt8) : ∀ (n : Nat) (todo did : List (List Bool)),(rowsBytes todo ++ (loopBytes loop ++ 46 :: 10 :: R)).length < n → did.length + todo.length ≤ 512 → 0 < did.length + todo.length → -1 ≤ loop → loop < ((did.length + todo.length : Nat) : Int) → (∀ r ∈ todo,(r.length : Int) = inn) →
    traceRun inn n (rowsBytes todo ++ (loopBytes loop ++ 46 :: 10 :: R)) did = (did ++ todo,loop,true,46 :: 10 :: R):=by
  intro n
  induction n with
  | zero => intro todo did h;omega
  | succ n ih =>
    intro todo did hn h1 h2 h3 h4 h5
    rw [traceRun]
    cases todo with
    | nil =>
      simp only [List.length_nil,Nat.add_zero] at h1 h2 h4
      simp only [rowsBytes,List.flatMap_nil,List.nil_append,List.append_nil]
      by_cases hl : loop ≥ 0
      · have e : loopBytes loop ++ 46 :: 10 :: R = (loopWord ++ Lib.itoa loop) ++ 10 :: 46 :: 10 :: R:=by
          unfold loopBytes
          rw [if_pos hl]
          simp [loopWord]
        have hno : 10 ∉ loopWord ++ Lib.itoa loop:=by
          simp only [List.mem_append,not_or]
          exact ⟨by decide,itoa_no loop hl 10 (by decide)⟩
        rw [e,nl_at _ _ hno]
        simp only
        rw [if_neg (fun h => by have:=congrArg List.head? h.2;simp [loopWord] at this),if_pos h2,loopRead_at loop hl _ h4 h1]
      · have e : loopBytes loop = []:=by
          unfold loopBytes
          rw [if_neg hl]
        rw [e,List.nil_append,nl_point]
        simp only
        rw [if_pos ⟨h2,trivial⟩]
        simp only [Prod.mk.injEq,true_and,and_true]
        omega
    | cons x xs =>
      simp only [List.length_cons] at h1 h2 h4
      have e : rowsBytes (x :: xs) ++ (loopBytes loop ++ 46 :: 10 :: R) = x.map dig ++ 10 :: (rowsBytes xs ++ (loopBytes loop ++ 46 :: 10 :: R)):=by
        unfold rowsBytes
        rw [List.flatMap_cons,rowBytes_dig]
        simp
      rw [e] at hn ⊢
      rw [nl_at _ _ (dig_no x 10 (by decide))]
      simp only
      rw [if_neg (fun h => dig_no x 46 (by decide) (by rw [h.2];simp)),loopRead_dig,ite_self]
      simp only
      rw [rowRead_dig x inn (h5 x (by simp))]
      simp only
      rw [if_neg (by omega),ih xs (did ++ [x]) (by simp at hn ⊢;omega) (by simp;omega) (by simp;omega) h3 (by simp;omega) fun r hr => h5 r (by simp [hr])]
      simp
theorem checkSpec_zero {st : Int} {ps : List S83} {init : List Bool} {ins : List (List Bool)} {loop la inn : Int} (h : checkSpec st ps init ins loop la inn = 0) :
    (0 ≤ la ∧ la ≤ 16384 ∧ 0 ≤ inn ∧ inn ≤ 16384) ∧ 0 ≤ st ∧ st ≤ 2 ∧ propsSpec ps = 0 ∧ ((st = 1 ∧ traceOK init ins loop la inn = true) ∨ (st ≠ 1 ∧ init = [] ∧ ins = [] ∧ loop = 0)):=by
  unfold checkSpec at h
  split at h
  · rename_i hz
    refine ⟨hz,?_⟩
    split at h
    · cases h
    · rename_i hs
      split at h
      · rename_i hp
        refine ⟨by omega,by omega,hp,?_⟩
        split at h
        · rename_i h1
          split at h
          · rename_i ht
            exact .inl ⟨h1,ht⟩
          · cases h
        · rename_i h1
          split at h
          · rename_i ht
            exact .inr ⟨h1,List.eq_nil_of_length_eq_zero ht.1,List.eq_nil_of_length_eq_zero ht.2.1,ht.2.2⟩
          · cases h
      · rename_i hp
        exact absurd h hp
  · cases h
theorem traceOK_open {init : List Bool} {ins : List (List Bool)} {loop la inn : Int} : traceOK init ins loop la inn = true ↔ (init.length : Int) = la ∧ ins.length ≠ 0 ∧ ins.length ≤ 512 ∧ -1 ≤ loop ∧ loop < (ins.length : Int) ∧ ∀ r ∈ ins,(r.length : Int) = inn:=by
  simp only [traceOK,Bool.and_eq_true,decide_eq_true_eq,List.all_eq_true,and_assoc]
theorem one_there (st : Int) (ps : List S83) (init : List Bool) (ins : List (List Bool)) (loop la inn : Int) (R : List UInt8) (h : checkSpec st ps init ins loop la inn = 0) :
    oneSpec la inn (witBytes st ps init ins loop ++ R) = ((st,ps,init,ins,loop),0,R):=by
  obtain ⟨hz,h0,h2,hp,ht⟩:=checkSpec_zero h
  obtain ⟨n1,n2⟩:=props_line hp
  have e : witBytes st ps init ins loop ++ R = Lib.itoa st ++ 10 :: (propsBytes ps ++ 10 :: (traceBytes st init ins loop ++ 46 :: 10 :: R)):=by
    simp [witBytes,headBytes]
  rw [e]
  unfold oneSpec
  rw [nl_at _ _ (itoa_no st h0 10 (by decide))]
  simp only
  rw [stRead_itoa st h0 h2]
  simp only
  rw [nl_at _ _ n1]
  simp only
  rw [n2]
  simp only
  rcases ht with ⟨h1,ht⟩|⟨h1,rfl,rfl,rfl⟩
  · obtain ⟨t1,t2,t3,t4,t5,t6⟩:=traceOK_open.1 ht
    have e2 : traceBytes st init ins loop ++ 46 :: 10 :: R = init.map dig ++ 10 :: (rowsBytes ins ++ (loopBytes loop ++ 46 :: 10 :: R)):=by
      unfold traceBytes
      rw [if_pos h1,rowBytes_dig]
      simp
    have hs : traceSpec la inn (traceBytes st init ins loop ++ 46 :: 10 :: R) = (init,ins,loop,true,46 :: 10 :: R):=by
      unfold traceSpec
      rw [e2,nl_at _ _ (dig_no init 10 (by decide))]
      simp only
      rw [rowRead_dig init la t1]
      simp only
      rw [run_there inn loop R _ ins [] (by simp;omega) (by simp;omega) (by simp;omega) t4 (by simpa using t5) t6]
      rfl
    rw [if_pos h1,hs]
    simp only [if_true]
    rw [point_at,h1]
  · rw [if_neg h1]
    have e2 : traceBytes st [] [] 0 ++ 46 :: 10 :: R = 46 :: 10 :: R:=by
      unfold traceBytes
      rw [if_neg h1]
      rfl
    rw [e2,point_at]
end Go.Proofs.YtojepjkpnponoaaDoor.Stim

