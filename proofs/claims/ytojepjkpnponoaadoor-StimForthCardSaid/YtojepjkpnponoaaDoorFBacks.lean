import Derived.Test.YtojepjkpnponoaaDoorFReads
import Derived.Test.YtojepjkpnponoaaDoorFPureP
set_option linter.unusedSimpArgs false
namespace Go.Proofs.YtojepjkpnponoaaDoor.Stim
open Go Go.RowKit Go.Proofs.YtojepjkpnponoaaDoorW.PrintWords
set_option linter.unusedVariables false
def dig (b : Bool) : UInt8:=if b then 49 else 48
theorem rowBytes_dig (r : List Bool) : rowBytes r = r.map dig ++ [10]:=rfl
theorem stRead_some {l : List UInt8} {st : Int} (h : stRead l = some st) : l = Lib.itoa st ∧ 0 ≤ st ∧ st ≤ 2:=by
  unfold stRead at h
  split at h
  · rename_i hl
    injection h with h
    subst h hl
    exact ⟨by decide +kernel,by decide,by decide⟩
  · split at h
    · rename_i hl
      injection h with h
      subst h hl
      exact ⟨by decide +kernel,by decide,by decide⟩
    · split at h
      · rename_i hl
        injection h with h
        subst h hl
        exact ⟨by decide +kernel,by decide,by decide⟩
      · cases h
theorem propsSpec_fits {ps : List S83} (h : propsSpec ps = 0) : ps ≠ [] ∧ ps.length ≤ 16384 ∧ ∀ p ∈ ps,(p.f0 = 98 ∨ p.f0 = 106) ∧ 0 ≤ p.f1 ∧ p.f1 < 16384:=by
  unfold propsSpec at h
  split at h
  · cases h
  · split at h
    · cases h
    · rename_i h1 h2
      refine ⟨fun e => h2 (by rw [e];rfl),by omega,fun p hp => ?_⟩
      have:=propsLoop_fits ps _ h p hp
      simp only [propFits,Bool.and_eq_true,Bool.or_eq_true,beq_iff_eq,Bool.not_eq_true',decide_eq_false_iff_not] at this
      omega
theorem propsRead_some {l : List UInt8} {ps : List S83} (h : propsRead l = some ps) : l = propsBytes ps ∧ propsSpec ps = 0:=by
  unfold propsRead at h
  cases hp : propsOf ((frags l).map bytesA) with
  | none => rw [hp] at h;cases h
  | some qs =>
    rw [hp] at h
    simp only [Option.bind_some] at h
    split at h
    · rename_i h0
      injection h with h
      subst h
      obtain ⟨hw,_⟩:=words_props _ _ hp
      refine ⟨?_,h0⟩
      rw [props_joined qs (propsSpec_fits h0).1,← hw,frags_joined]
    · cases h
theorem loopRead_some {l : List UInt8} {m : Nat} {n : Int} (h : loopRead l m = some n) : l = loopWord ++ Lib.itoa n ∧ 0 ≤ n ∧ n < (m : Int):=by
  unfold loopRead at h
  split at h
  · rename_i hc
    injection h with h
    have hx : numOf (l.drop 7) = (n,true):=by rw [← h,← hc.2.1]
    obtain ⟨h1,h2,_⟩:=num_some hx
    exact ⟨by rw [← h1,← hc.1,List.take_append_drop],h2,by rw [← h];exact hc.2.2⟩
  · cases h
theorem rowRead_some {n : Int} {l : List UInt8} {r : List Bool} (h : rowRead n l = some r) : (r.length : Int) = n ∧ l.length = r.length ∧ (120 ∉ l → l = r.map dig):=by
  unfold rowRead at h
  split at h
  · rename_i hl
    obtain ⟨h1,_,h3⟩:=row_some l r h
    exact ⟨by omega,h1,h3⟩
  · cases h
theorem nl_point (R : List UInt8) : nl (46 :: 10 :: R) = some ([46],R):=by simp [nl]
theorem point_at (st : Int) (ps : List S83) (init : List Bool) (ins : List (List Bool)) (loop : Int) (R : List UInt8) : pointRead st ps init ins loop (46 :: 10 :: R) = ((st,ps,init,ins,loop),0,R):=by
  unfold pointRead
  rw [nl_point]
  simp
theorem checkSpec_zero {st : Int} {ps : List S83} {init : List Bool} {ins : List (List Bool)} {loop la inn : Int} (h : checkSpec st ps init ins loop la inn = 0) :
    (0 ≤ la ∧ la ≤ 16384 ∧ 0 ≤ inn ∧ inn ≤ 16384) ∧ 0 ≤ st ∧ st ≤ 2 ∧ propsSpec ps = 0 ∧ ((st = 1 ∧ traceOK init ins loop la inn = true) ∨ (st ≠ 1 ∧ init = [] ∧ ins = [] ∧ loop = 0)):=by
  unfold checkSpec at h
  split at h
  · rename_i hz
    refine ⟨hz,?_⟩
    split at h
    · cases h
    · rename_i hs
      split at h
      · rename_i hp
        refine ⟨by omega,by omega,hp,?_⟩
        split at h
        · rename_i h1
          split at h
          · rename_i ht
            exact .inl ⟨h1,ht⟩
          · cases h
        · rename_i h1
          split at h
          · rename_i ht
            exact .inr ⟨h1,List.eq_nil_of_length_eq_zero ht.1,List.eq_nil_of_length_eq_zero ht.2.1,ht.2.2⟩
          · cases h
      · rename_i hp
        exact absurd h hp
  · cases h
theorem traceOK_open {init : List Bool} {ins : List (List Bool)} {loop la inn : Int} : traceOK init ins loop la inn = true ↔ (init.length : Int) = la ∧ ins.length ≠ 0 ∧ ins.length ≤ 512 ∧ -1 ≤ loop ∧ loop < (ins.length : Int) ∧ ∀ r ∈ ins,(r.length : Int) = inn:=by
  simp only [traceOK,Bool.and_eq_true,decide_eq_true_eq,List.all_eq_true,and_assoc]
theorem run_back (inn : Int) : ∀ (n : Nat) (T : List UInt8) (did ins : List (List Bool)) (loop : Int) (R : List UInt8),traceRun inn n T did = (ins,loop,true,R) → did.length ≤ 512 →
    ∃ todo V,ins = did ++ todo ∧ T = V ++ R ∧ V.length = (rowsBytes todo ++ loopBytes loop).length ∧ (120 ∉ V → V = rowsBytes todo ++ loopBytes loop) ∧ (∀ r ∈ todo,(r.length : Int) = inn) ∧ ins.length ≤ 512 ∧ ins.length ≠ 0 ∧ -1 ≤ loop ∧ loop < (ins.length : Int):=by
  intro n
  induction n with
  | zero => intro T did ins loop R h;simp [traceRun] at h
  | succ n ih =>
    intro T did ins loop R h hd
    rw [traceRun] at h
    cases hc : nl T with
    | none => rw [hc] at h;simp at h
    | some x =>
      obtain ⟨l,r⟩:=x
      obtain ⟨hT,hno⟩:=nl_some hc
      rw [hc] at h
      simp only at h
      split at h
      · rename_i h1
        simp only [Prod.mk.injEq,true_and] at h
        obtain ⟨rfl,rfl,rfl⟩:=h
        exact ⟨[],[],by simp,by simp,by simp [rowsBytes,loopBytes],by simp [rowsBytes,loopBytes],by simp,hd,by omega,by omega,by omega⟩
      · split at h
        · rename_i m hm
          simp only [Prod.mk.injEq,true_and] at h
          obtain ⟨rfl,rfl,rfl⟩:=h
          split at hm
          · rename_i h0
            obtain ⟨hl,hn0,hn1⟩:=loopRead_some hm
            have e : l ++ [10] = rowsBytes [] ++ loopBytes m:=by
              unfold loopBytes
              rw [if_pos hn0,hl]
              simp [rowsBytes,loopWord]
            exact ⟨[],l ++ [10],by simp,by rw [hT];simp,by rw [e],fun _ => e,by simp,hd,by omega,by omega,hn1⟩
          · cases hm
        · split at h
          · simp at h
          · rename_i x hx
            split at h
            · simp at h
            · rename_i h5
              obtain ⟨todo,V,e1,e2,e3,e4,e5,e6,e7,e8,e9⟩:=ih r (did ++ [x]) ins loop R h (by simp;omega)
              obtain ⟨r1,r2,r3⟩:=rowRead_some hx
              refine ⟨x :: todo,l ++ 10 :: V,by rw [e1];simp,by rw [hT,e2];simp,?_,fun hv => ?_,?_,e6,e7,e8,e9⟩
              · simp only [rowsBytes,List.flatMap_cons,rowBytes_dig,List.length_append,List.length_cons,List.length_map,List.length_nil] at e3 ⊢
                omega
              · simp only [List.mem_append,List.mem_cons,not_or] at hv
                rw [r3 hv.1,e4 hv.2.2]
                simp [rowsBytes,rowBytes_dig]
              · intro y hy
                rcases List.mem_cons.1 hy with rfl|hy
                · exact r1
                · exact e5 y hy
theorem point_some {st : Int} {ps : List S83} {init : List Bool} {ins : List (List Bool)} {loop : Int} {T R : List UInt8} {x : Int × List S83 × List Bool × List (List Bool) × Int} (h : pointRead st ps init ins loop T = (x,0,R)) : x = (st,ps,init,ins,loop) ∧ T = 46 :: 10 :: R:=by
  unfold pointRead at h
  cases hc : nl T with
  | none => rw [hc] at h;simp at h
  | some y =>
    obtain ⟨l,r⟩:=y
    obtain ⟨hT,_⟩:=nl_some hc
    rw [hc] at h
    simp only at h
    split at h
    · rename_i hl
      simp only [Prod.mk.injEq,true_and] at h
      obtain ⟨rfl,rfl⟩:=h
      subst hl
      exact ⟨rfl,hT⟩
    · simp at h
theorem one_back {la inn : Int} (hz : 0 ≤ la ∧ la ≤ 16384 ∧ 0 ≤ inn ∧ inn ≤ 16384) {T R : List UInt8} {st : Int} {ps : List S83} {init : List Bool} {ins : List (List Bool)} {loop : Int} (h : oneSpec la inn T = ((st,ps,init,ins,loop),0,R)) :
    checkSpec st ps init ins loop la inn = 0 ∧ ∃ U,T = U ++ R ∧ U.length = (witBytes st ps init ins loop).length ∧ (120 ∉ U → U = witBytes st ps init ins loop):=by
  unfold oneSpec at h
  cases hc : nl T with
  | none => rw [hc] at h;simp at h
  | some x =>
    obtain ⟨l,r⟩:=x
    obtain ⟨hT,_⟩:=nl_some hc
    rw [hc] at h
    simp only at h
    cases hs : stRead l with
    | none => rw [hs] at h;simp at h
    | some st' =>
      obtain ⟨hl,s0,s2⟩:=stRead_some hs
      rw [hs] at h
      simp only at h
      cases hd : nl r with
      | none => rw [hd] at h;simp at h
      | some y =>
        obtain ⟨l2,r2⟩:=y
        obtain ⟨hr,_⟩:=nl_some hd
        rw [hd] at h
        simp only at h
        cases hp : propsRead l2 with
        | none => rw [hp] at h;simp at h
        | some ps' =>
          obtain ⟨hl2,hps⟩:=propsRead_some hp
          rw [hp] at h
          simp only at h
          split at h
          · rename_i h1
            split at h
            · rename_i ht
              obtain ⟨e,hT2⟩:=point_some h
              simp only [Prod.mk.injEq] at e
              obtain ⟨rfl,rfl,rfl,rfl,rfl⟩:=e
              subst h1
              cases hc2 : nl r2 with
              | none => unfold traceSpec at ht;rw [hc2] at ht;simp at ht
              | some z =>
                obtain ⟨l3,r3⟩:=z
                obtain ⟨hr2,_⟩:=nl_some hc2
                cases hrow : rowRead la l3 with
                | none => unfold traceSpec at ht;rw [hc2] at ht;simp only at ht;rw [hrow] at ht;simp at ht
                | some init' =>
                  have hspec : traceSpec la inn r2 = (init',traceRun inn (r2.length + 1) r3 []):=by
                    unfold traceSpec
                    rw [hc2]
                    simp only
                    rw [hrow]
                  rw [hspec] at hT2 ht ⊢
                  simp only at hT2 ht ⊢
                  obtain ⟨q1,q2,q3⟩:=rowRead_some hrow
                  obtain ⟨todo,V,e1,e2,e3,e4,e5,e6,e7,e8,e9⟩:=run_back inn (r2.length + 1) r3 [] (traceRun inn (r2.length + 1) r3 []).1 (traceRun inn (r2.length + 1) r3 []).2.1 (traceRun inn (r2.length + 1) r3 []).2.2.2 (by rw [← ht]) (by simp)
                  rw [List.nil_append] at e1
                  rw [e1] at e6 e7 e9 ⊢
                  refine ⟨?_,l ++ 10 :: (l2 ++ 10 :: (l3 ++ 10 :: (V ++ [46,10]))),?_,?_,fun hv => ?_⟩
                  · unfold checkSpec
                    rw [if_pos hz,if_neg (by omega),if_pos hps,if_pos rfl,if_pos (traceOK_open.2 ⟨q1,e7,e6,e8,e9,e5⟩)]
                  · rw [hT,hr,hr2,e2,hT2]
                    simp
                  · rw [hl,hl2]
                    simp only [witBytes,headBytes,traceBytes,if_true,rowBytes_dig,List.length_append,List.length_cons,List.length_map,List.length_nil] at e3 ⊢
                    omega
                  · simp only [List.mem_append,List.mem_cons,not_or] at hv
                    rw [q3 hv.2.2.2.2.1,e4 hv.2.2.2.2.2.2.1,hl,hl2]
                    simp [witBytes,headBytes,traceBytes,rowBytes_dig]
            · simp at h
          · rename_i h1
            obtain ⟨e,hT2⟩:=point_some h
            simp only [Prod.mk.injEq] at e
            obtain ⟨rfl,rfl,rfl,rfl,rfl⟩:=e
            refine ⟨?_,l ++ 10 :: (l2 ++ [10,46,10]),?_,?_,fun _ => ?_⟩
            · unfold checkSpec
              rw [if_pos hz,if_neg (by omega),if_pos hps,if_neg h1,if_pos ⟨rfl,rfl,rfl⟩]
            · rw [hT,hr,hT2]
              simp
            · rw [hl,hl2]
              simp [witBytes,headBytes,traceBytes,h1]
            · rw [hl,hl2]
              simp [witBytes,headBytes,traceBytes,h1]
theorem run_more (inn : Int) (R : List UInt8) : ∀ (n : Nat) (T : List UInt8) (did ins : List (List Bool)) (loop : Int) (T' : List UInt8),traceRun inn n T did = (ins,loop,true,T') → ∀ m,n ≤ m → traceRun inn m (T ++ R) did = (ins,loop,true,T' ++ R):=by
  intro n
  induction n with
  | zero => intro T did ins loop T' h;simp [traceRun] at h
  | succ n ih =>
    intro T did ins loop T' h m hm
    obtain ⟨m,rfl⟩ : ∃ j,m = j + 1:=⟨m - 1,by omega⟩
    rw [traceRun] at h ⊢
    cases hc : nl T with
    | none => rw [hc] at h;simp at h
    | some x =>
      obtain ⟨l,r⟩:=x
      rw [hc] at h
      rw [nl_more R hc]
      simp only at h ⊢
      split at h
      · rename_i h1
        simp only [Prod.mk.injEq,true_and] at h
        obtain ⟨rfl,rfl,rfl⟩:=h
        rw [if_pos h1]
      · rename_i h1
        rw [if_neg h1]
        split at h
        · rename_i k hk
          simp only [Prod.mk.injEq,true_and] at h
          obtain ⟨rfl,rfl,rfl⟩:=h
          rfl
        · rename_i hk
          split at h
          · simp at h
          · rename_i y hy
            split at h
            · simp at h
            · rename_i h5
              rw [if_neg h5]
              exact ih r _ ins loop T' h m (by omega)
theorem point_more {st : Int} {ps : List S83} {init : List Bool} {ins : List (List Bool)} {loop : Int} {T T' : List UInt8} (R : List UInt8) {x : Int × List S83 × List Bool × List (List Bool) × Int} (h : pointRead st ps init ins loop T = (x,0,T')) : pointRead st ps init ins loop (T ++ R) = (x,0,T' ++ R):=by
  obtain ⟨rfl,rfl⟩:=point_some h
  exact point_at _ _ _ _ _ _
theorem trace_more {la inn : Int} {T : List UInt8} (R : List UInt8) (h : (traceSpec la inn T).2.2.2.1 = true) :
    traceSpec la inn (T ++ R) = ((traceSpec la inn T).1,(traceSpec la inn T).2.1,(traceSpec la inn T).2.2.1,true,(traceSpec la inn T).2.2.2.2 ++ R):=by
  unfold traceSpec at h ⊢
  cases hc : nl T with
  | none => rw [hc] at h;simp at h
  | some x =>
    obtain ⟨l,r⟩:=x
    rw [hc] at h
    rw [nl_more R hc]
    simp only at h ⊢
    cases hrow : rowRead la l with
    | none => rw [hrow] at h;simp at h
    | some init =>
      rw [hrow] at h
      simp only at h ⊢
      rw [run_more inn R (T.length + 1) r [] (traceRun inn (T.length + 1) r []).1 (traceRun inn (T.length + 1) r []).2.1 (traceRun inn (T.length + 1) r []).2.2.2 (by rw [← h]) ((T ++ R).length + 1) (by simp)]
theorem one_more {la inn : Int} {T T' : List UInt8} (R : List UInt8) {x : Int × List S83 × List Bool × List (List Bool) × Int} (h : oneSpec la inn T = (x,0,T')) : oneSpec la inn (T ++ R) = (x,0,T' ++ R):=by
  unfold oneSpec at h ⊢
  cases hc : nl T with
  | none => rw [hc] at h;simp at h
  | some y =>
    obtain ⟨l,r⟩:=y
    rw [hc] at h
    rw [nl_more R hc]
    simp only at h ⊢
    cases hs : stRead l with
    | none => rw [hs] at h;simp at h
    | some st =>
      rw [hs] at h
      simp only at h ⊢
      cases hd : nl r with
      | none => rw [hd] at h;simp at h
      | some z =>
        obtain ⟨l2,r2⟩:=z
        rw [hd] at h
        rw [nl_more R hd]
        simp only at h ⊢
        cases hp : propsRead l2 with
        | none => rw [hp] at h;simp at h
        | some ps =>
          rw [hp] at h
          simp only at h ⊢
          split at h
          · rename_i h1
            rw [if_pos h1]
            split at h
            · rename_i ht
              rw [trace_more R ht,if_pos rfl]
              exact point_more R h
            · simp at h
          · rename_i h1
            rw [if_neg h1]
            exact point_more R h
end Go.Proofs.YtojepjkpnponoaaDoor.Stim

