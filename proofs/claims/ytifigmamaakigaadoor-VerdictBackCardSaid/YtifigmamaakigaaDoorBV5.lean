import Derived.Test.YtifigmamaakigaaDoorBVSort
namespace Go.Proofs.YtifigmamaakigaaDoor.V
open Go Go.RowKit Go.MapKept Go.Proofs.YtifigmamaakigaaDoorW.PrintWords Go.Proofs.YtifigmamaakigaaDoorW.PrintLast Go.Proofs.YtifigmamaakigaaDoorW.PrintMore
set_option linter.unusedVariables false
set_option linter.unusedSimpArgs false
theorem heap_put {w : World} {r : Nat} {o o' : Obj} (hb : w.heap[r]? = some o) : (w.putObj r o').heap[r]? = some o' ∧ ∀ r',r' ≠ r → (w.putObj r o').heap[r']? = w.heap[r']?:=MapKept.heap_set hb
theorem below_putObj {base : Nat} {w W : World} {g : Nat} {o : Obj} (h : Below base w W) (hg : base ≤ g) : Below base w (W.putObj g o):=by
  refine ⟨h.os,h.tape,h.output,?_,fun k hk => ?_⟩
  · have:=h.size
    simpa [World.putObj] using this
  · rw [← h.block k hk]
    show (W.heap.setIfInBounds g o)[k]? = _
    rw [Array.getElem?_setIfInBounds_ne (by omega)]
theorem foldE_app : ∀ (l l' E : List RW),foldE E (l ++ l') = (foldE E l).bind fun E' => foldE E' l'
  | [],l',E => rfl
  | r :: l,l',E => by
    rw [List.cons_append,foldE,foldE]
    cases stepE E r with
    | none => rfl
    | some E' => exact foldE_app l l' E'
theorem stepE_length {E E' : List RW} {r : RW} (h : stepE E r = some E') : E'.length ≤ E.length + 1:=by
  have hr : ∀ (E : List RW),(replE E r).length = E.length:=by
    intro E
    have:=congrArg List.length (replE_keys E r)
    simpa using this
  unfold stepE at h
  split at h
  · injection h with h;subst h;simp
  · split at h
    · cases h
    · injection h with h
      subst h
      split
      · rw [hr];omega
      · omega
theorem stepE_mem {E E' : List RW} {r : RW} (h : stepE E r = some E') : ∀ x ∈ E',x = r ∨ x ∈ E:=by
  have hr : ∀ (E : List RW),∀ x ∈ replE E r,x = r ∨ x ∈ E:=by
    intro E
    induction E with
    | nil => intro x hx;cases hx
    | cons b E ih =>
      intro x hx
      rw [replE] at hx
      split at hx
      · rcases List.mem_cons.1 hx with h|h
        · exact .inl h
        · exact .inr (List.mem_cons_of_mem _ h)
      · rcases List.mem_cons.1 hx with h|h
        · exact .inr (h ▸ List.mem_cons_self)
        · rcases ih x h with h|h
          · exact .inl h
          · exact .inr (List.mem_cons_of_mem _ h)
  unfold stepE at h
  split at h
  · injection h with h
    subst h
    intro x hx
    rcases List.mem_append.1 hx with h|h
    · exact .inr h
    · exact .inl (List.mem_singleton.1 h)
  · split at h
    · cases h
    · injection h with h
      subst h
      split
      · exact hr E
      · exact fun x hx => .inr hx
theorem foldE_len : ∀ {l E E' : List RW},foldE E l = some E' → E'.length ≤ E.length + l.length
  | [],E,E',h => by injection h with h;subst h;simp
  | r :: l,E,E',h => by
    rw [foldE] at h
    obtain ⟨E1,h1,h2⟩:=Option.bind_eq_some_iff.1 h
    have:=stepE_length h1
    have:=foldE_len h2
    simp
    omega
theorem foldE_mem : ∀ {l E E' : List RW},foldE E l = some E' → ∀ x ∈ E',x ∈ E ∨ x ∈ l
  | [],E,E',h,x,hx => by injection h with h;subst h;exact .inl hx
  | r :: l,E,E',h,x,hx => by
    rw [foldE] at h
    obtain ⟨E1,h1,h2⟩:=Option.bind_eq_some_iff.1 h
    rcases foldE_mem h2 x hx with h3|h3
    · rcases stepE_mem h1 x h3 with h4|h4
      · exact .inr (h4 ▸ List.mem_cons_self)
      · exact .inl h4
    · exact .inr (List.mem_cons_of_mem _ h3)
theorem ne_own {w : World} {base : Nat} {ok : Nat → Prop} {v : Value} {xs : List RW} (h : Kd.R kR 31 w base ok v xs) {g : Nat} {o : Obj} (hb : w.heap[g]? = some o) (ho : ∀ cells,o ≠ .cells cells 31 (0,0)) : some g ≠ v.ownBlock:=by
  intro e
  obtain ⟨inner,hi⟩:=Kd.R_own h
  obtain ⟨cells,hc⟩:=own_typed hi g e.symm
  rw [hb] at hc
  injection hc with hc
  exact ho cells hc
theorem R_to {w W : World} {base : Nat} {v : Value} {xs : List RW} (h : Kd.R kR 31 w base (fun _ => True) v xs) (hm : ∀ k,v.ownBlock = some k → W.heap[k]? = w.heap[k]?) : Kd.R kR 31 W base (fun _ => True) v xs :=
  Kd.R_mono (Kd.R_move (Kd.R_tight rfl h) (fun k hk => hm k hk.symm)) (fun _ _ => trivial)
def leftL (E : List RW) (seen : List Nat) : List (RW × Nat):=E.zipIdx.filter (fun x => !seen.contains x.2)
theorem leftL_z (E : List RW) : leftL E [] = E.zipIdx:=List.filter_eq_self.2 (by simp)
theorem leftL_nil (E : List RW) : (leftL E []).map Prod.fst = E:=by
  rw [leftL_z]
  simp
theorem leftL_len (E : List RW) : (leftL E []).length = E.length:=by
  rw [leftL_z]
  simp
theorem leftL_snd (E : List RW) : (E.zipIdx.map Prod.snd).Nodup:=by
  rw [List.zipIdx_map_snd]
  exact List.nodup_range'
theorem left_es (E : List RW) (seen : List Nat) : (leftOf (esOf E) seen.toArray).toList = (leftL E seen).map eR:=by
  unfold leftOf leftL esOf esL
  simp [List.filter_map,Function.comp_def,eR]
  rfl
theorem leftL_step {E : List RW} {seen : List Nat} {e : RW × Nat} (he : e ∈ leftL E seen) : (leftL E seen).Perm (e :: leftL E (seen ++ [e.2])):=by
  unfold leftL at *
  obtain ⟨h1,h2⟩:=List.mem_filter.1 he
  exact left_perm Prod.snd seen e E.zipIdx (leftL_snd E) h1 (by simpa using h2)
theorem es_born (E : List RW) : ∀ x ∈ (esOf E).toList,x.born < E.length:=by
  intro x hx
  have : x ∈ E.zipIdx.map eR:=by simpa [esOf,esL] using hx
  obtain ⟨⟨r,j⟩,h1,rfl⟩:=List.mem_map.1 this
  have:=List.mem_zipIdx h1
  show j < E.length
  omega
theorem es_nodup (E : List RW) : ((esOf E).toList.map (·.born)).Nodup:=by
  have : (esOf E).toList.map (·.born) = E.zipIdx.map Prod.snd:=by simp [esOf,esL,eR,Function.comp_def]
  rw [this]
  exact leftL_snd E
theorem rm_of {l : List RW} (h : ∀ r ∈ l,mayB r = true) : ∃ d : List RM,d.map Subtype.val = l:=by
  induction l with
  | nil => exact ⟨[],rfl⟩
  | cons a l ih =>
    obtain ⟨d,hd⟩:=ih (fun r hr => h r (List.mem_cons_of_mem _ hr))
    exact ⟨⟨a,h a List.mem_cons_self⟩ :: d,by rw [List.map_cons,hd]⟩
theorem mergeF_none {l : List RW} (h0 : wrongF l = 0) {E : List RW} {a b : List RW} {r : RW} (hl : l = a ++ r :: b) (h1 : foldE [] a = some E) (h2 : stepE E r = none) : mergeF l = ([],270):=by
  have hf : foldE [] l = none:=by
    rw [hl,foldE_app,h1]
    show foldE E (r :: b) = none
    rw [foldE,h2]
    rfl
  have hm:=merge_map l
  unfold mergeF
  rw [if_neg (fun h => h h0)]
  cases hr : mergeR l with
  | none => rfl
  | some m =>
    rw [hr] at hm
    obtain ⟨E',h3,_⟩:=hm
    rw [hf] at h3
    cases h3
theorem mergeF_some {l : List RW} (h0 : wrongF l = 0) {E o : List RW} (h1 : foldE [] l = some E) (h2 : o.Pairwise (fun a b => ¬ kLt b.key a.key)) (h3 : o.Perm E) : mergeF l = (o,0):=by
  have hm:=merge_map l
  cases hr : mergeR l with
  | none =>
    rw [hr] at hm
    rw [h1] at hm
    cases hm
  | some m =>
    rw [hr] at hm
    obtain ⟨E',h4,h5⟩:=hm
    rw [h1] at h4
    injection h4 with h4
    subst h4
    rw [h5 o o h2 (List.Perm.refl _) h3]
    exact mergeF_mk h0 hr
set_option maxHeartbeats 8000000 in
set_option maxRecDepth 100000 in
theorem merge_calls {w : World} {A : Option Addr} {c : Nat} {xs : List RW} (hK : KV w) (h : Kd.C kR w A xs.length xs) :
    Calls Tryd.prog 6 #[.slice A xs.length c] w fun e w' => ∃ v,e = .returned (.tuple #[v,.int .i64 (mergeF xs).2]) ∧ Kd.R kR 31 w' w.heap.size (fun _ => True) v (mergeF xs).1 ∧ Below w.heap.size w w':=by
  have hu29:=Tryd.underlying29
  have hu31:=Tryd.underlying31
  have hu44:=under44
  have hmm:=@run_makeMap Tryd.prog
  have LC:=looked_calls (c:=c) hK h
  have HX:=Aside0.mk h
  by_cases c1 : wrongF xs = 0
  · rw [c1] at LC
    have HW:=Aside0.mk c1
    have HL:=Aside0.mk (wrongF_zero.1 c1)
    have LC':=Aside0.mk LC
    clear c1 h hK LC
    have LC:=LC'
    clear LC'
    obtain ⟨MF,hMF⟩ : ∃ MF,mergeF xs = MF:=⟨_,rfl⟩
    rw [hMF]
    have HMF:=Aside0.mk hMF
    clear hMF
    go_enter Tryd.func6,Tryd.ntmps6
    go_upto_region 4 with (go_at_call 11;refine (LC.out).mono ?_;rintro e w2 ⟨rfl,hb2⟩;have HB2:=Aside0.mk hb2;clear hb2)
    go_upto_region 5 with (fail)
    have hg : (w2.alloc (.map #[] 0)).heap[w2.heap.size]? = some (.map (esOf []) ([] : List RW).length):=World.alloc_heap_new w2 (.map #[] 0)
    have hb3 : Below w.heap.size w (w2.alloc (.map #[] 0)):=below_alloc HB2.out _
    have hle : w.heap.size ≤ w2.heap.size:=HB2.out.size
    clear HB2
    generalize w2.heap.size = g at hg hle ⊢
    generalize w2.alloc (.map #[] 0) = W at hg hb3 ⊢
    have HG:=Aside0.mk hg
    have HB:=Aside0.mk hb3
    have HLE:=Aside0.mk hle
    clear hg hb3 hle
    go_wp2
    repeat (go_quiet (fail);try go_wp2)
    (try simp only [Act.put,List.setIfInBounds_toArray,List.set_cons_zero,List.set_cons_succ])
    go_loopg [21] (xs.length + 1) (fun kq v w' => ∃ (n : Nat) (E : List RW),v = .int .i64 n ∧ Aside0 (n + kq = xs.length + 1) ∧ Aside0 (n ≤ xs.length) ∧ Aside0 (foldE [] (xs.take n) = some E) ∧ Aside0 (w'.heap[g]? = some (.map (esOf E) E.length)) ∧ Aside0 (Below w.heap.size w w'))
    case atStart => exact ⟨0,[],rfl,⟨by omega⟩,⟨Nat.zero_le _⟩,⟨by rw [List.take_zero];rfl⟩,HG,HB⟩
    case round =>
      clear HG HB
      obtain ⟨n,E,rfl,HK,HNL,HF,HG,HB⟩:=hrel
      cases gk with
      | zero =>
        have h1:=HK.out
        have h2:=HNL.out
        omega
      | succ k1 =>
        by_cases cn : n < xs.length
        · have cnb : decide ((n : Int) < (xs.length : Int)) = true:=decide_eq_true (by omega)
          have p0 : (0 ≤ (n : Int)) = True:=eq_true (by omega)
          have p1 : ((n : Int) < (xs.length : Int)) = True:=eq_true (by omega)
          have hw1 : IntKind.i64.wrap ((n : Int) + 1) = ((n + 1 : Nat) : Int):=by have:=HL.out.1;rw [IntKind.wrap_i64];omega
          obtain ⟨ad,ea,hx0,hx1,hx2,hx3,hx4⟩:=row_at (Kd.C_below HX.out HB.out) n cn
          cases ea
          have HTK : Aside0 (xs.take (n + 1) = xs.take n ++ [xs[n]]):=⟨List.take_succ_eq_append_getElem cn⟩
          have HSP : Aside0 (xs = xs.take n ++ xs[n] :: xs.drop (n + 1)):=⟨by rw [← List.drop_eq_getElem_cons cn,List.take_append_drop]⟩
          generalize xs[n] = x at hx0 hx1 hx2 hx3 hx4 HTK HSP
          go_upto_region 8 with (fail)
          have hc7 : (wr.alloc (.cells #[.int .u8 x.f0,.int .i64 x.f1,.string x.f2,.int .i64 x.f3,.int .i64 x.f4] 31)).heap[wr.heap.size]? = some (.cells #[.int .u8 x.f0,.int .i64 x.f1,.string x.f2,.int .i64 x.f3,.int .i64 x.f4] 31 (0,0)):=blk_new wr _
          have hg7 : (wr.alloc (.cells #[.int .u8 x.f0,.int .i64 x.f1,.string x.f2,.int .i64 x.f3,.int .i64 x.f4] 31)).heap[g]? = some (.map (esOf E) E.length):=((below_alloc (Below.refl _ _) _ : Below wr.heap.size wr (wr.alloc (.cells #[.int .u8 x.f0,.int .i64 x.f1,.string x.f2,.int .i64 x.f3,.int .i64 x.f4] 31))).block _ (Array.getElem?_eq_some_iff.1 HG.out).1).trans HG.out
          have hb7 : Below w.heap.size w (wr.alloc (.cells #[.int .u8 x.f0,.int .i64 x.f1,.string x.f2,.int .i64 x.f3,.int .i64 x.f4] 31)):=below_alloc HB.out _
          have hlt7 : g < wr.heap.size:=(Array.getElem?_eq_some_iff.1 HG.out).1
          clear HG HB hx0 hx1 hx2 hx3 hx4
          generalize wr.heap.size = g7 at hc7 hlt7 ⊢
          generalize wr.alloc (.cells #[.int .u8 x.f0,.int .i64 x.f1,.string x.f2,.int .i64 x.f3,.int .i64 x.f4] 31) = W7 at hc7 hg7 hb7 ⊢
          have y0 : W7.cell? ⟨g7,0,none⟩ = some (.int .u8 x.f0):=(blk_cell hc7 0).trans rfl
          have y1 : W7.cell? ⟨g7,1,none⟩ = some (.int .i64 x.f1):=(blk_cell hc7 1).trans rfl
          have HC7:=Aside0.mk hc7
          have HG7:=Aside0.mk hg7
          have HB7:=Aside0.mk hb7
          have HLT:=Aside0.mk hlt7
          have LK : (Instr.lookup 44 (.map (some g)) (.agg #[.int .u8 x.f0,.int .i64 x.f1]) true).run Tryd.prog W7 = .ok (.tuple #[rowV ((find x.key E).getD zR),.bool (find x.key E).isSome]) W7:=lookup44 x W7 g E.length E hg7
          have HUP : Aside0 (∀ W : World,W.heap[g]? = some (.map (esOf E) E.length) → (Instr.mapUpdate 44 (.map (some g)) (.agg #[.int .u8 x.f0,.int .i64 x.f1]) (.agg #[.int .u8 x.f0,.int .i64 x.f1,.string x.f2,.int .i64 x.f3,.int .i64 x.f4])).run Tryd.prog W = .ok () (W.putObj g (.map (esOf (if (find x.key E).isSome then replE E x else E ++ [x])) (if (find x.key E).isSome then replE E x else E ++ [x]).length))):=⟨fun W hW => update44 x W g E hW⟩
          have hst : stepE E x = match find x.key E with|none => some (E ++ [x])|some b => if clash x b then none else some (if moreR x b then replE E x else E):=rfl
          clear hc7 hg7 hb7 hlt7
          cases hf : find x.key E with
          | none =>
            rw [hf] at LK hst
            replace LK : (Instr.lookup 44 (.map (some g)) (.agg #[.int .u8 x.f0,.int .i64 x.f1]) true).run Tryd.prog W7 = .ok (.tuple #[.agg #[.int .u8 0,.int .i64 0,.string ⟨#[]⟩,.int .i64 0,.int .i64 0],.bool false]) W7:=LK
            replace hst : stepE E x = some (E ++ [x]):=hst
            have HUP2 : Aside0 (∀ W : World,W.heap[g]? = some (.map (esOf E) E.length) → (Instr.mapUpdate 44 (.map (some g)) (.agg #[.int .u8 x.f0,.int .i64 x.f1]) (.agg #[.int .u8 x.f0,.int .i64 x.f1,.string x.f2,.int .i64 x.f3,.int .i64 x.f4])).run Tryd.prog W = .ok () (W.putObj g (.map (esOf (E ++ [x])) (E ++ [x]).length))):=⟨fun W hW => by have:=HUP.out W hW;rw [hf] at this;exact this⟩
            have HST:=Aside0.mk hst
            clear hst hf HUP
            go_upto_region 9 with (fail)
            have hc7 : (W7.alloc (.cells #[.int .u8 0,.int .i64 0,.string ⟨#[]⟩,.int .i64 0,.int .i64 0] 31)).heap[g7]? = some (.cells #[.int .u8 x.f0,.int .i64 x.f1,.string x.f2,.int .i64 x.f3,.int .i64 x.f4] 31 (0,0)):=blk_alloc HC7.out _
            have hc8 : (W7.alloc (.cells #[.int .u8 0,.int .i64 0,.string ⟨#[]⟩,.int .i64 0,.int .i64 0] 31)).heap[W7.heap.size]? = some (.cells #[.int .u8 0,.int .i64 0,.string ⟨#[]⟩,.int .i64 0,.int .i64 0] 31 (0,0)):=blk_new W7 _
            have hg8 : (W7.alloc (.cells #[.int .u8 0,.int .i64 0,.string ⟨#[]⟩,.int .i64 0,.int .i64 0] 31)).heap[g]? = some (.map (esOf E) E.length):=((below_alloc (Below.refl _ _) _ : Below W7.heap.size W7 (W7.alloc (.cells #[.int .u8 0,.int .i64 0,.string ⟨#[]⟩,.int .i64 0,.int .i64 0] 31))).block _ (Array.getElem?_eq_some_iff.1 HG7.out).1).trans HG7.out
            have hb8 : Below w.heap.size w (W7.alloc (.cells #[.int .u8 0,.int .i64 0,.string ⟨#[]⟩,.int .i64 0,.int .i64 0] 31)):=below_alloc HB7.out _
            clear HC7 HG7 HB7 y0 y1 LK
            generalize W7.heap.size = g8 at hc8 ⊢
            generalize W7.alloc (.cells #[.int .u8 0,.int .i64 0,.string ⟨#[]⟩,.int .i64 0,.int .i64 0] 31) = W8 at hc7 hc8 hg8 hb8 ⊢
            have x0 : W8.cell? ⟨g7,0,none⟩ = some (.int .u8 x.f0):=(blk_cell hc7 0).trans rfl
            have x1 : W8.cell? ⟨g7,1,none⟩ = some (.int .i64 x.f1):=(blk_cell hc7 1).trans rfl
            have x2 : W8.cell? ⟨g7,2,none⟩ = some (.string x.f2):=(blk_cell hc7 2).trans rfl
            have x3 : W8.cell? ⟨g7,3,none⟩ = some (.int .i64 x.f3):=(blk_cell hc7 3).trans rfl
            have x4 : W8.cell? ⟨g7,4,none⟩ = some (.int .i64 x.f4):=(blk_cell hc7 4).trans rfl
            have HC7:=Aside0.mk hc7
            have HC8:=Aside0.mk hc8
            have HG8:=Aside0.mk hg8
            have HB8:=Aside0.mk hb8
            clear hc7 hc8 hg8 hb8
            have UP:=HUP2.out W8 HG8.out
            clear HUP2
            go_wp2
            repeat (go_quiet (fail);try go_wp2)
            go_roundg k1
            case measure => omega
            case rel => exact ⟨n + 1,E ++ [x],rfl,⟨by have:=HK.out;omega⟩,⟨by omega⟩,⟨by rw [HTK.out,foldE_app,HF.out];show foldE E [x] = some (E ++ [x]);rw [foldE,HST.out];rfl⟩,⟨by have:=(heap_put (o':=.map (esOf (E ++ [x])) (E ++ [x]).length) HG8.out).1;simpa using this⟩,⟨below_putObj HB8.out (Nat.le_trans HLE.out (Nat.le_refl _))⟩⟩
          | some b =>
            rw [hf] at LK hst
            replace LK : (Instr.lookup 44 (.map (some g)) (.agg #[.int .u8 x.f0,.int .i64 x.f1]) true).run Tryd.prog W7 = .ok (.tuple #[.agg #[.int .u8 b.f0,.int .i64 b.f1,.string b.f2,.int .i64 b.f3,.int .i64 b.f4],.bool true]) W7:=LK
            replace hst : stepE E x = if clash x b then none else some (if moreR x b then replE E x else E):=hst
            have HUP2 : Aside0 (∀ W : World,W.heap[g]? = some (.map (esOf E) E.length) → (Instr.mapUpdate 44 (.map (some g)) (.agg #[.int .u8 x.f0,.int .i64 x.f1]) (.agg #[.int .u8 x.f0,.int .i64 x.f1,.string x.f2,.int .i64 x.f3,.int .i64 x.f4])).run Tryd.prog W = .ok () (W.putObj g (.map (esOf (replE E x)) (replE E x).length))):=⟨fun W hW => by have:=HUP.out W hW;rw [hf] at this;exact this⟩
            clear hf HUP
            go_upto_region 9 with (fail)
            have hc7 : (W7.alloc (.cells #[.int .u8 b.f0,.int .i64 b.f1,.string b.f2,.int .i64 b.f3,.int .i64 b.f4] 31)).heap[g7]? = some (.cells #[.int .u8 x.f0,.int .i64 x.f1,.string x.f2,.int .i64 x.f3,.int .i64 x.f4] 31 (0,0)):=blk_alloc HC7.out _
            have hc8 : (W7.alloc (.cells #[.int .u8 b.f0,.int .i64 b.f1,.string b.f2,.int .i64 b.f3,.int .i64 b.f4] 31)).heap[W7.heap.size]? = some (.cells #[.int .u8 b.f0,.int .i64 b.f1,.string b.f2,.int .i64 b.f3,.int .i64 b.f4] 31 (0,0)):=blk_new W7 _
            have hg8 : (W7.alloc (.cells #[.int .u8 b.f0,.int .i64 b.f1,.string b.f2,.int .i64 b.f3,.int .i64 b.f4] 31)).heap[g]? = some (.map (esOf E) E.length):=((below_alloc (Below.refl _ _) _ : Below W7.heap.size W7 (W7.alloc (.cells #[.int .u8 b.f0,.int .i64 b.f1,.string b.f2,.int .i64 b.f3,.int .i64 b.f4] 31))).block _ (Array.getElem?_eq_some_iff.1 HG7.out).1).trans HG7.out
            have hb8 : Below w.heap.size w (W7.alloc (.cells #[.int .u8 b.f0,.int .i64 b.f1,.string b.f2,.int .i64 b.f3,.int .i64 b.f4] 31)):=below_alloc HB7.out _
            clear HC7 HG7 HB7 y0 y1 LK
            generalize W7.heap.size = g8 at hc8 ⊢
            generalize W7.alloc (.cells #[.int .u8 b.f0,.int .i64 b.f1,.string b.f2,.int .i64 b.f3,.int .i64 b.f4] 31) = W8 at hc7 hc8 hg8 hb8 ⊢
            have x0 : W8.cell? ⟨g7,0,none⟩ = some (.int .u8 x.f0):=(blk_cell hc7 0).trans rfl
            have x1 : W8.cell? ⟨g7,1,none⟩ = some (.int .i64 x.f1):=(blk_cell hc7 1).trans rfl
            have x2 : W8.cell? ⟨g7,2,none⟩ = some (.string x.f2):=(blk_cell hc7 2).trans rfl
            have x3 : W8.cell? ⟨g7,3,none⟩ = some (.int .i64 x.f3):=(blk_cell hc7 3).trans rfl
            have x4 : W8.cell? ⟨g7,4,none⟩ = some (.int .i64 x.f4):=(blk_cell hc7 4).trans rfl
            have z0 : W8.cell? ⟨g8,0,none⟩ = some (.int .u8 b.f0):=(blk_cell hc8 0).trans rfl
            have z1 : W8.cell? ⟨g8,1,none⟩ = some (.int .i64 b.f1):=(blk_cell hc8 1).trans rfl
            have z2 : W8.cell? ⟨g8,2,none⟩ = some (.string b.f2):=(blk_cell hc8 2).trans rfl
            have z3 : W8.cell? ⟨g8,3,none⟩ = some (.int .i64 b.f3):=(blk_cell hc8 3).trans rfl
            have z4 : W8.cell? ⟨g8,4,none⟩ = some (.int .i64 b.f4):=(blk_cell hc8 4).trans rfl
            have HC7:=Aside0.mk hc7
            have HC8:=Aside0.mk hc8
            have HG8:=Aside0.mk hg8
            have HB8:=Aside0.mk hb8
            clear hc7 hc8 hg8 hb8
            by_cases hcl : clash x b
            · rw [if_pos hcl] at hst
              have e1 : (x.f3 != 0) = true:=bne_iff_ne.mpr hcl.1
              have e2 : (b.f3 != 0) = true:=bne_iff_ne.mpr hcl.2.1
              have e3 : (x.f3 != b.f3) = true:=bne_iff_ne.mpr hcl.2.2
              have hmf:=mergeF_none HW.out HSP.out HF.out hst
              rw [HMF.out] at hmf
              subst hmf
              clear hcl hst HMF
              go_wp2
              repeat (go_quiet (fail);try go_wp2)
              refine bodyPost_ret (results_tmp2 rfl _ _ _) rfl ?_
              exact ⟨_,rfl,Kd.R_nil _ _ _ _ _,HB8.out⟩
            · rw [if_neg hcl] at hst
              have MC:=more_calls (w:=W8) (a:=x) (b:=b)
              by_cases d1 : x.f3 = 0
              · have e1 : (x.f3 != 0) = false:=by rw [d1];rfl
                clear d1
                clear hcl
                by_cases hmo : moreR x b
                · rw [if_pos hmo] at hst
                  rw [decide_eq_true hmo] at MC
                  have HST:=Aside0.mk hst
                  have MC':=Aside0.mk MC
                  clear hst hmo MC
                  go_wp2_with (go_at_call 12;refine (MC'.out).mono ?_;rintro e w3 ⟨rfl,hb3⟩;have HG9:=Aside0.mk ((hb3.block _ (Array.getElem?_eq_some_iff.1 HG8.out).1).trans HG8.out);have HB9:=Aside0.mk (HB8.out.trans (SHlower HB8.out.size hb3));have HC9:=blk_below HC7.out hb3;have q0 : w3.cell? ⟨g7,0,none⟩ = some (.int .u8 x.f0):=(blk_cell HC9 0).trans rfl;have q1 : w3.cell? ⟨g7,1,none⟩ = some (.int .i64 x.f1):=(blk_cell HC9 1).trans rfl;have q2 : w3.cell? ⟨g7,2,none⟩ = some (.string x.f2):=(blk_cell HC9 2).trans rfl;have q3 : w3.cell? ⟨g7,3,none⟩ = some (.int .i64 x.f3):=(blk_cell HC9 3).trans rfl;have q4 : w3.cell? ⟨g7,4,none⟩ = some (.int .i64 x.f4):=(blk_cell HC9 4).trans rfl;have UP:=HUP2.out w3 HG9.out;clear hb3 HC9 x0 x1 x2 x3 x4 z0 z1 z2 z3 z4)
                  repeat (go_quiet (fail);try go_wp2)
                  go_roundg k1
                  case measure => omega
                  case rel => exact ⟨n + 1,replE E x,rfl,⟨by have:=HK.out;omega⟩,⟨by omega⟩,⟨by rw [HTK.out,foldE_app,HF.out];show foldE E [x] = some (replE E x);rw [foldE,HST.out];rfl⟩,⟨by have:=(heap_put (o':=.map (esOf (replE E x)) (replE E x).length) HG9.out).1;exact this⟩,⟨below_putObj HB9.out (Nat.le_trans HLE.out (Nat.le_refl _))⟩⟩
                · rw [if_neg hmo] at hst
                  rw [decide_eq_false hmo] at MC
                  have HST:=Aside0.mk hst
                  have MC':=Aside0.mk MC
                  clear hst hmo MC
                  go_wp2_with (go_at_call 12;refine (MC'.out).mono ?_;rintro e w3 ⟨rfl,hb3⟩;have HG9:=Aside0.mk ((hb3.block _ (Array.getElem?_eq_some_iff.1 HG8.out).1).trans HG8.out);have HB9:=Aside0.mk (HB8.out.trans (SHlower HB8.out.size hb3));clear hb3 x0 x1 x2 x3 x4 z0 z1 z2 z3 z4)
                  repeat (go_quiet (fail);try go_wp2)
                  go_roundg k1
                  case measure => omega
                  case rel => exact ⟨n + 1,E,rfl,⟨by have:=HK.out;omega⟩,⟨by omega⟩,⟨by rw [HTK.out,foldE_app,HF.out];show foldE E [x] = some (E);rw [foldE,HST.out];rfl⟩,⟨HG9.out⟩,⟨HB9.out⟩⟩
              · have e1 : (x.f3 != 0) = true:=bne_iff_ne.mpr d1
                by_cases d2 : b.f3 = 0
                · have e2 : (b.f3 != 0) = false:=by rw [d2];rfl
                  clear d1 d2
                  clear hcl
                  by_cases hmo : moreR x b
                  · rw [if_pos hmo] at hst
                    rw [decide_eq_true hmo] at MC
                    have HST:=Aside0.mk hst
                    have MC':=Aside0.mk MC
                    clear hst hmo MC
                    go_wp2_with (go_at_call 12;refine (MC'.out).mono ?_;rintro e w3 ⟨rfl,hb3⟩;have HG9:=Aside0.mk ((hb3.block _ (Array.getElem?_eq_some_iff.1 HG8.out).1).trans HG8.out);have HB9:=Aside0.mk (HB8.out.trans (SHlower HB8.out.size hb3));have HC9:=blk_below HC7.out hb3;have q0 : w3.cell? ⟨g7,0,none⟩ = some (.int .u8 x.f0):=(blk_cell HC9 0).trans rfl;have q1 : w3.cell? ⟨g7,1,none⟩ = some (.int .i64 x.f1):=(blk_cell HC9 1).trans rfl;have q2 : w3.cell? ⟨g7,2,none⟩ = some (.string x.f2):=(blk_cell HC9 2).trans rfl;have q3 : w3.cell? ⟨g7,3,none⟩ = some (.int .i64 x.f3):=(blk_cell HC9 3).trans rfl;have q4 : w3.cell? ⟨g7,4,none⟩ = some (.int .i64 x.f4):=(blk_cell HC9 4).trans rfl;have UP:=HUP2.out w3 HG9.out;clear hb3 HC9 x0 x1 x2 x3 x4 z0 z1 z2 z3 z4)
                    repeat (go_quiet (fail);try go_wp2)
                    go_roundg k1
                    case measure => omega
                    case rel => exact ⟨n + 1,replE E x,rfl,⟨by have:=HK.out;omega⟩,⟨by omega⟩,⟨by rw [HTK.out,foldE_app,HF.out];show foldE E [x] = some (replE E x);rw [foldE,HST.out];rfl⟩,⟨by have:=(heap_put (o':=.map (esOf (replE E x)) (replE E x).length) HG9.out).1;exact this⟩,⟨below_putObj HB9.out (Nat.le_trans HLE.out (Nat.le_refl _))⟩⟩
                  · rw [if_neg hmo] at hst
                    rw [decide_eq_false hmo] at MC
                    have HST:=Aside0.mk hst
                    have MC':=Aside0.mk MC
                    clear hst hmo MC
                    go_wp2_with (go_at_call 12;refine (MC'.out).mono ?_;rintro e w3 ⟨rfl,hb3⟩;have HG9:=Aside0.mk ((hb3.block _ (Array.getElem?_eq_some_iff.1 HG8.out).1).trans HG8.out);have HB9:=Aside0.mk (HB8.out.trans (SHlower HB8.out.size hb3));clear hb3 x0 x1 x2 x3 x4 z0 z1 z2 z3 z4)
                    repeat (go_quiet (fail);try go_wp2)
                    go_roundg k1
                    case measure => omega
                    case rel => exact ⟨n + 1,E,rfl,⟨by have:=HK.out;omega⟩,⟨by omega⟩,⟨by rw [HTK.out,foldE_app,HF.out];show foldE E [x] = some (E);rw [foldE,HST.out];rfl⟩,⟨HG9.out⟩,⟨HB9.out⟩⟩
                · have e2 : (b.f3 != 0) = true:=bne_iff_ne.mpr d2
                  have d3 : x.f3 = b.f3:=Classical.byContradiction (fun d => hcl ⟨d1,d2,d⟩)
                  have e3 : (x.f3 != b.f3) = false:=by rw [d3];exact bne_self_eq_false _
                  clear d1 d2 d3
                  clear hcl
                  by_cases hmo : moreR x b
                  · rw [if_pos hmo] at hst
                    rw [decide_eq_true hmo] at MC
                    have HST:=Aside0.mk hst
                    have MC':=Aside0.mk MC
                    clear hst hmo MC
                    go_wp2_with (go_at_call 12;refine (MC'.out).mono ?_;rintro e w3 ⟨rfl,hb3⟩;have HG9:=Aside0.mk ((hb3.block _ (Array.getElem?_eq_some_iff.1 HG8.out).1).trans HG8.out);have HB9:=Aside0.mk (HB8.out.trans (SHlower HB8.out.size hb3));have HC9:=blk_below HC7.out hb3;have q0 : w3.cell? ⟨g7,0,none⟩ = some (.int .u8 x.f0):=(blk_cell HC9 0).trans rfl;have q1 : w3.cell? ⟨g7,1,none⟩ = some (.int .i64 x.f1):=(blk_cell HC9 1).trans rfl;have q2 : w3.cell? ⟨g7,2,none⟩ = some (.string x.f2):=(blk_cell HC9 2).trans rfl;have q3 : w3.cell? ⟨g7,3,none⟩ = some (.int .i64 x.f3):=(blk_cell HC9 3).trans rfl;have q4 : w3.cell? ⟨g7,4,none⟩ = some (.int .i64 x.f4):=(blk_cell HC9 4).trans rfl;have UP:=HUP2.out w3 HG9.out;clear hb3 HC9 x0 x1 x2 x3 x4 z0 z1 z2 z3 z4)
                    repeat (go_quiet (fail);try go_wp2)
                    go_roundg k1
                    case measure => omega
                    case rel => exact ⟨n + 1,replE E x,rfl,⟨by have:=HK.out;omega⟩,⟨by omega⟩,⟨by rw [HTK.out,foldE_app,HF.out];show foldE E [x] = some (replE E x);rw [foldE,HST.out];rfl⟩,⟨by have:=(heap_put (o':=.map (esOf (replE E x)) (replE E x).length) HG9.out).1;exact this⟩,⟨below_putObj HB9.out (Nat.le_trans HLE.out (Nat.le_refl _))⟩⟩
                  · rw [if_neg hmo] at hst
                    rw [decide_eq_false hmo] at MC
                    have HST:=Aside0.mk hst
                    have MC':=Aside0.mk MC
                    clear hst hmo MC
                    go_wp2_with (go_at_call 12;refine (MC'.out).mono ?_;rintro e w3 ⟨rfl,hb3⟩;have HG9:=Aside0.mk ((hb3.block _ (Array.getElem?_eq_some_iff.1 HG8.out).1).trans HG8.out);have HB9:=Aside0.mk (HB8.out.trans (SHlower HB8.out.size hb3));clear hb3 x0 x1 x2 x3 x4 z0 z1 z2 z3 z4)
                    repeat (go_quiet (fail);try go_wp2)
                    go_roundg k1
                    case measure => omega
                    case rel => exact ⟨n + 1,E,rfl,⟨by have:=HK.out;omega⟩,⟨by omega⟩,⟨by rw [HTK.out,foldE_app,HF.out];show foldE E [x] = some (E);rw [foldE,HST.out];rfl⟩,⟨HG9.out⟩,⟨HB9.out⟩⟩
        · have hn : n = xs.length:=by have:=HNL.out;omega
          subst hn
          have hf:=HF.out
          rw [List.take_length] at hf
          have HF2:=Aside0.mk hf
          clear hf cn HF HNL HK
          skip
          have HEL : Aside0 (E.length ≤ 16384):=⟨by have h1:=foldE_len HF2.out;have h2:=HL.out.1;simp at h1;omega⟩
          have HEM : Aside0 (∀ r ∈ E,mayB r = true):=⟨fun r hr => HL.out.2 r (by rcases foldE_mem HF2.out r hr with h|h;exact absurd h (by simp);exact h)⟩
          have RG : (Instr.range 44 (.map (some g))).run Tryd.prog wr = .ok (.pointer (some ⟨wr.heap.size,0,none⟩)) (wr.alloc (.mapIter (some g) E.length #[] E.length)):=run_range_map wr 44 29 31 g (esOf E) E.length under44 HG.out
          go_wp2
          repeat (go_quiet (fail);try go_wp2)
          have hg3 : (wr.alloc (.mapIter (some g) E.length #[] E.length)).heap[g]? = some (.map (esOf E) E.length):=((below_alloc (Below.refl _ _) _ : Below wr.heap.size wr (wr.alloc (.mapIter (some g) E.length #[] E.length))).block _ (Array.getElem?_eq_some_iff.1 HG.out).1).trans HG.out
          have hi3 : (wr.alloc (.mapIter (some g) E.length #[] E.length)).heap[wr.heap.size]? = some (.mapIter (some g) E.length #[] E.length):=World.alloc_heap_new wr _
          have hb3 : Below w.heap.size w (wr.alloc (.mapIter (some g) E.length #[] E.length)):=below_alloc HB.out _
          have hle3 : w.heap.size ≤ wr.heap.size:=HB.out.size
          clear RG HG HB
          generalize wr.heap.size = R at hi3 hle3 ⊢
          generalize wr.alloc (.mapIter (some g) E.length #[] E.length) = W3 at hg3 hi3 hb3 ⊢
          have HG:=Aside0.mk hg3
          have HI:=Aside0.mk hi3
          have HB:=Aside0.mk hb3
          have HRL:=Aside0.mk hle3
          clear hg3 hi3 hb3 hle3
          (try simp only [Act.put,List.setIfInBounds_toArray,List.set_cons_zero,List.set_cons_succ])
          go_loopg [10] (E.length + 1) (fun kq v w' => ∃ (out : List RW) (seen : List Nat),Aside0 ((leftL E seen).length + 1 = kq) ∧ Aside0 ((out ++ (leftL E seen).map Prod.fst).Perm E) ∧ Aside0 (Kd.R kR 31 w' w.heap.size (fun _ => True) v out) ∧ Aside0 (w'.heap[g]? = some (.map (esOf E) E.length)) ∧ Aside0 (w'.heap[R]? = some (.mapIter (some g) E.length seen.toArray E.length)) ∧ Aside0 (Below w.heap.size w w'))
          case atStart => exact ⟨[],[],⟨by rw [leftL_len]⟩,⟨by rw [leftL_nil];exact List.Perm.refl _⟩,⟨Kd.R_nil _ _ _ _ _⟩,HG,HI,HB⟩
          case round =>
            clear HG HI HB
            obtain ⟨out,seen,HK,HP,HRW,HG,HI,HB⟩:=hrel
            obtain ⟨A9,n9,rfl⟩:=Kd.R_slice HRW.out
            rcases run_next_at (P:=Tryd.prog) wr 0 R g E.length E.length seen.toArray (esOf E) E.length HI.out HG.out (es_born E) (Nat.le_refl _) with ⟨h0,hn⟩|⟨en,he,w1,hw1,hn⟩
            · have hl0 : leftL E seen = []:=by
                have:=congrArg List.length (left_es E seen)
                rw [Array.length_toList,h0] at this
                exact List.length_eq_zero_iff.1 (by simpa using this.symm)
              have hp:=HP.out
              rw [hl0,List.map_nil,List.append_nil] at hp
              obtain ⟨d,hd⟩:=rm_of (l:=out) (fun r hr => HEM.out r (hp.mem_iff.1 hr))
              have SC:=sort_calls (d:=d) (by rw [hd];exact HRW.out) (by have:=hp.length_eq;have:=HEL.out;have:=congrArg List.length hd;rw [List.length_map] at this;omega)
              have HD:=Aside0.mk hd
              clear hd
              have SC':=Aside0.mk SC
              clear SC
              have HPP:=Aside0.mk hp
              clear hl0 hp h0
              go_wp2_with (go_at_call 13;refine (SC'.out).mono ?_;rintro e w6 ⟨rfl,d',hperm,hsort,hr6,hgr6⟩)
              repeat (go_quiet (fail);try go_wp2)
              have hmf:=mergeF_some (o:=d'.map Subtype.val) HW.out HF2.out (by rw [List.pairwise_map];exact hsort) ((hperm.map Subtype.val).trans (by rw [HD.out];exact HPP.out))
              rw [HMF.out] at hmf
              subst hmf
              obtain ⟨inner9,hown9⟩:=Kd.R_own HRW.out
              refine bodyPost_ret (results_tmp2 rfl _ _ _) rfl ?_
              exact ⟨_,rfl,hr6,HB.out.grown hgr6 HB.out.size (own_base hown9)⟩
            · obtain ⟨⟨x,j⟩,hm,rfl⟩:=List.mem_map.1 (by rw [← left_es];exact he)
              have hst:=leftL_step hm
              have HST:=Aside0.mk hst
              have h1 : w1.heap = wr.heap:=by rcases hw1 with rfl|rfl <;> rfl
              have hb1 : Below w.heap.size w w1:=by rcases hw1 with rfl|rfl;exact HB.out;exact below_drew HB.out
              have hRg : R ≠ g:=fun e => by have h2:=HI.out;rw [e,HG.out] at h2;cases h2
              have hlt : R < w1.heap.size:=by rw [h1];exact (Array.getElem?_eq_some_iff.1 HI.out).1
              have hi2 : (ChangeMaps.setBlock w1 R (.mapIter (some g) E.length (seen.toArray.push j) E.length)).heap[R]? = some (.mapIter (some g) E.length (seen.toArray.push j) E.length):=by show (w1.heap.setIfInBounds R _)[R]? = _;rw [Array.getElem?_setIfInBounds_self_of_lt hlt]
              have hne2 : ∀ k,k ≠ R → (ChangeMaps.setBlock w1 R (.mapIter (some g) E.length (seen.toArray.push j) E.length)).heap[k]? = wr.heap[k]?:=fun k hk => by show (w1.heap.setIfInBounds R _)[k]? = _;rw [Array.getElem?_setIfInBounds_ne (fun e => hk e.symm),h1]
              have hb2 : Below w.heap.size w (ChangeMaps.setBlock w1 R (.mapIter (some g) E.length (seen.toArray.push j) E.length)):=below_putObj hb1 HRL.out
              have hn' : (Instr.next (.pointer (some ⟨R,0,none⟩)) false 0).run Tryd.prog wr = .ok (.tuple #[.bool true,.agg #[.int .u8 x.f0,.int .i64 x.f1],.agg #[.int .u8 x.f0,.int .i64 x.f1,.string x.f2,.int .i64 x.f3,.int .i64 x.f4]]) (ChangeMaps.setBlock w1 R (.mapIter (some g) E.length (seen.toArray.push j) E.length)):=hn
              clear hn
              generalize ChangeMaps.setBlock w1 R (.mapIter (some g) E.length (seen.toArray.push j) E.length) = W2 at hn' hi2 hne2 hb2
              have hg2 : W2.heap[g]? = some (.map (esOf E) E.length):=(hne2 g (fun e => hRg e.symm)).trans HG.out
              have hr2 : Kd.R kR 31 W2 w.heap.size (fun _ => True) (.slice A9 out.length n9) out:=R_to HRW.out (fun k hk => hne2 k (fun e => ne_own HRW.out HI.out (fun cells h => by cases h) (by rw [hk,e])))
              have hen : (Instr.entry (.pointer (some ⟨R,0,none⟩))).run Tryd.prog W2 = .ok (.tuple #[.agg #[.int .u8 x.f0,.int .i64 x.f1],.agg #[.int .u8 x.f0,.int .i64 x.f1,.string x.f2,.int .i64 x.f3,.int .i64 x.f4]]) W2:=run_entry_at W2 R g E.length seen.toArray (esOf E) E.length (eR (x,j)) hi2 hg2 (mem_left he).1 (es_nodup E)
              have HI2 : Aside0 (W2.heap[R]? = some (.mapIter (some g) E.length (seen ++ [j]).toArray E.length)):=⟨by rw [hi2,List.push_toArray]⟩
              have HG2:=Aside0.mk hg2
              have HR2:=Aside0.mk hr2
              have HB2:=Aside0.mk hb2
              have HOL : Aside0 (out.length ≤ 16384):=⟨by have h2:=HP.out.length_eq;have h3:=HEL.out;rw [List.length_append] at h2;omega⟩
              clear hi2 hne2 hb2 hg2 hr2 hst h1 hb1 hRg hlt hw1 HG HI HB HRW he
              go_upto_region 18 with (fail)
              have hc4 : (W2.alloc (.cells #[.int .u8 x.f0,.int .i64 x.f1,.string x.f2,.int .i64 x.f3,.int .i64 x.f4] 31)).heap[W2.heap.size]? = some (.cells #[.int .u8 x.f0,.int .i64 x.f1,.string x.f2,.int .i64 x.f3,.int .i64 x.f4] 31 (0,0)):=blk_new W2 _
              have hbb : Below W2.heap.size W2 (W2.alloc (.cells #[.int .u8 x.f0,.int .i64 x.f1,.string x.f2,.int .i64 x.f3,.int .i64 x.f4] 31)):=below_alloc (Below.refl _ _) _
              have hg4 : (W2.alloc (.cells #[.int .u8 x.f0,.int .i64 x.f1,.string x.f2,.int .i64 x.f3,.int .i64 x.f4] 31)).heap[g]? = some (.map (esOf E) E.length):=(hbb.block _ (Array.getElem?_eq_some_iff.1 HG2.out).1).trans HG2.out
              have hi4 : (W2.alloc (.cells #[.int .u8 x.f0,.int .i64 x.f1,.string x.f2,.int .i64 x.f3,.int .i64 x.f4] 31)).heap[R]? = some (.mapIter (some g) E.length (seen ++ [j]).toArray E.length):=(hbb.block _ (Array.getElem?_eq_some_iff.1 HI2.out).1).trans HI2.out
              have hr4 : Kd.R kR 31 (W2.alloc (.cells #[.int .u8 x.f0,.int .i64 x.f1,.string x.f2,.int .i64 x.f3,.int .i64 x.f4] 31)) w.heap.size (fun _ => True) (.slice A9 out.length n9) out:=Kd.R_alloc HR2.out _
              have hb4 : Below w.heap.size w (W2.alloc (.cells #[.int .u8 x.f0,.int .i64 x.f1,.string x.f2,.int .i64 x.f3,.int .i64 x.f4] 31)):=below_alloc HB2.out _
              clear hbb HI2 HG2 HR2 HB2 hen hn'
              generalize W2.heap.size = g12 at hc4 ⊢
              generalize W2.alloc (.cells #[.int .u8 x.f0,.int .i64 x.f1,.string x.f2,.int .i64 x.f3,.int .i64 x.f4] 31) = W4 at hc4 hg4 hi4 hr4 hb4 ⊢
              have t0 : W4.cell? ⟨g12,0,none⟩ = some (.int .u8 x.f0):=(blk_cell hc4 0).trans rfl
              have t1 : W4.cell? ⟨g12,1,none⟩ = some (.int .i64 x.f1):=(blk_cell hc4 1).trans rfl
              have t2 : W4.cell? ⟨g12,2,none⟩ = some (.string x.f2):=(blk_cell hc4 2).trans rfl
              have t3 : W4.cell? ⟨g12,3,none⟩ = some (.int .i64 x.f3):=(blk_cell hc4 3).trans rfl
              have t4 : W4.cell? ⟨g12,4,none⟩ = some (.int .i64 x.f4):=(blk_cell hc4 4).trans rfl
              have HG4:=Aside0.mk hg4
              have HI4:=Aside0.mk hi4
              have HR4:=Aside0.mk hr4
              have HB4:=Aside0.mk hb4
              clear hc4 hg4 hi4 hr4 hb4
              go_wp2_with (first|(at_builtin;refine Kd.R_append kR (w0:=w) w.heap.size rfl (.tmp 68) (.tmp 70) 22 31 (.agg #[(.int .u8 0),(.int .i64 0),(.string ⟨#[]⟩),(.int .i64 0),(.int .i64 0)]) 48 rfl Tryd.underlying22 info31 rfl (by decide) (by decide) (.slice A9 out.length n9) out x [.int .u8 x.f0,.int .i64 x.f1,.string x.f2,.int .i64 x.f3,.int .i64 x.f4] (fun _ => True) (fun k => some k ≠ (Value.slice A9 out.length n9).ownBlock) rfl rfl (kR_mkM _ _ _ _) (fun _ h => ⟨trivial,h⟩) (fun _ _ => trivial) HR4.out HB4.out HB4.out.size (by have:=HOL.out;omega) ?_;intro v6 w6 hr6 hb6 hg6 hat6)|go_in)
              repeat (go_quiet (fail);try go_wp2)
              go_roundg (leftL E seen).length
              case measure => have:=HK.out;omega
              case rel => exact ⟨out ++ [x],seen ++ [j],⟨by have:=HST.out.length_eq;rw [List.length_cons] at this;exact this.symm⟩,⟨by rw [List.append_assoc];exact ((HST.out.map Prod.fst).symm.append_left out).trans HP.out⟩,⟨hr6⟩,⟨(hg6.block g (Array.getElem?_eq_some_iff.1 HG4.out).1 (ne_own HR4.out HG4.out (fun cells h => by cases h))).trans HG4.out⟩,⟨(hg6.block R (Array.getElem?_eq_some_iff.1 HI4.out).1 (ne_own HR4.out HI4.out (fun cells h => by cases h))).trans HI4.out⟩,⟨hb6⟩⟩
  · have cb : (wrongF xs != 0) = true:=bne_iff_ne.mpr c1
    have hm : mergeF xs = ([],wrongF xs):=by unfold mergeF;rw [if_pos c1]
    rw [hm]
    generalize wrongF xs = E at LC cb ⊢
    have LC':=Aside0.mk LC
    clear LC
    have LC:=LC'
    clear LC'
    clear c1 hm h hK HX hmm
    go_enter Tryd.func6,Tryd.ntmps6
    go_wp2_with (go_at_call 11;refine (LC.out).mono ?_;rintro e w2 ⟨rfl,hb2⟩)
    repeat (go_quiet (fail);try go_wp2)
    refine bodyPost_ret (results_tmp2 rfl _ _ _) rfl ?_
    exact ⟨_,rfl,Kd.R_nil _ _ _ _ _,hb2⟩
end Go.Proofs.YtifigmamaakigaaDoor.V

