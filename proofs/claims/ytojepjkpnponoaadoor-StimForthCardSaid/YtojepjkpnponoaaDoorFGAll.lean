import Derived.Test.YtojepjkpnponoaaDoorFStim4
import Derived.Test.YtojepjkpnponoaaDoorFGRead
namespace Go.Proofs.YtojepjkpnponoaaDoor.Stim
open Go Go.RowKit Go.Proofs.YtojepjkpnponoaaDoorW.PrintWords Go.Proofs.YtojepjkpnponoaaDoorW.PrintLast Go.Proofs.YtojepjkpnponoaaDoorW.PrintMore
set_option linter.unusedVariables false
set_option linter.unusedSimpArgs false
theorem Kd.R_set_keep_ {α : Type} {d : Kd α} {e base : Nat} {ok : Nat → Prop} {W w1 : World} {v : Value} {xs : List α} {g t : Nat} {cells : Array Value} (h : d.R e W base ok v xs) (hb : W.heap[g]? = some (.cells cells t (0,0))) (ht : ∀ q,q ∈ e :: d.E → q ≠ t) (hk : KeepBut W w1 g none) : d.R e w1 base ok v xs :=
  Kd.R_mono (Kd.R_keep (Kd.R_types h hb ht) hk (fun _ hk => hk.2)) (fun _ hk => hk.1)
theorem M_ne_own {α β : Type} {d : Kd α} {d' : Kd β} {e base base' : Nat} {ok ok' : Nat → Prop} {W : World} {v : Value} {xs : List β} {x : α} {cs : List Value} (h : d.M W base ok x cs) (ho : d'.R e W base' ok' v xs) (ht : ∀ q,q ∈ d.E → q ≠ e) : d.M W base (fun k => some k ≠ v.ownBlock) x cs :=
  d.M_mono (fun k hk => by
    obtain ⟨_,_,_,q,hq,cells,hc⟩:=hk
    intro he
    obtain ⟨inner,hi⟩:=Kd.R_own ho
    obtain ⟨cells',hc'⟩:=own_typed hi k he.symm
    rw [hc] at hc'
    injection hc' with hc'
    injection hc' with _ hc'
    exact ht q hq hc') (d.M_bound h)
def allRun (s : ByteArray) (la inn : Int) : Nat → Int → List S28 → Option (List S28 × Int × Int)
  | 0,_,_ => none
  | k + 1,i,out =>
    if i < (s.size : Int) then
      (stim_reader_one.f (2 * s.size + 100) s i la inn).bind fun o =>
        if o.2.2.2.2.2.1 = 0 ∧ o.2.2.2.2.2.2.1 = 0 then
          (if o.2.2.2.2.2.2.2.1 = s ∧ o.2.2.2.2.2.2.2.2.2.1 = la ∧ o.2.2.2.2.2.2.2.2.2.2 = inn then
            (if out.length = 16384 then some ([],i,2)
            else if out.length < 16384 then allRun s la inn k o.2.2.2.2.2.2.2.2.1 (out ++ [⟨o.1,o.2.1,⟨o.2.2.1,o.2.2.2.1,o.2.2.2.2.1⟩⟩]) else none)
          else none)
        else some ([],o.2.2.2.2.2.1,o.2.2.2.2.2.2.1)
    else some (out,0,0)
def stim_All.f (a0 : ByteArray) (a1 : Int) (a2 : Int) : Option ((List (S28)) × Int × Int) :=
  if a0.size > 262144 then some ([],0,2)
  else (stim_sized.f a1 a2).bind fun b => if b = false then some ([],0,1) else allRun a0 a1 a2 (a0.size + 2) 0 []
set_option maxHeartbeats 4000000 in
set_option maxRecDepth 100000 in
theorem stim_All.calls (a0 : ByteArray) (a1 : Int) (a2 : Int) (r1 : List (S28)) (r2 : Int) (r3 : Int) (w : World) (hG : GV w) (h : stim_All.f a0 a1 a2 = some (r1,r2,r3)) :
    Calls Tryd.prog 20 #[.string a0,.int .i64 a1,.int .i64 a2] w fun e w' => ∃ v0_ : Value,e = .returned (.tuple #[v0_,.agg #[.int .i64 r2,.int .i64 r3]]) ∧ Kd.R k28 28 w' w.heap.size (fun _ => True) v0_ r1 ∧ Below w.heap.size w w':=by
  have hu28:=Tryd.underlying28
  have hu40:=Tryd.underlying40
  have hu26:=Tryd.underlying26
  have hu98:=Tryd.underlying98
  have HG:=A0_.mk hG
  clear hG
  unfold stim_All.f at h
  have hbw : Below w.heap.size w (w.alloc (.cells #[.int .i64 0,.int .i64 0] 40)):=eA_ (Below.refl _ _) _
  have hk7 : (w.alloc (.cells #[.int .i64 0,.int .i64 0] 40)).heap[w.heap.size]? = some (.cells #[.int .i64 0,.int .i64 0] 40 (0,0)):=blk_new w _
  have HBW:=A0_.mk hbw
  have HK7:=A0_.mk hk7
  clear hbw hk7
  by_cases c1 : a0.size > 262144
  · rw [if_pos c1] at h
    simp only [Option.some.injEq,Prod.mk.injEq] at h
    obtain ⟨rfl,rfl,rfl⟩:=h
    go_enter Tryd.func20,Tryd.ntmps20
    go_wp2_with (first|((with_reducible refine gate_callee (f:=46) rfl ?_);refine goesL_ (some 18) rfl rfl Tryd.func46 (by kernel_rfl) rfl #[.string a0,.int .i64 a1,.int .i64 a2] rfl (by (try simp only [List.map_toArray,List.map_cons,List.map_nil]);first|done|rfl) ?_;(with_reducible refine (stim_begun_long a0 a1 a2 _ c1).mono ?_);rintro e w2 ⟨rfl,hb⟩;refine ⟨_,rfl,?_⟩;have n7_:=A0_.mk ((hb.block _ (Array.getElem?_eq_some_iff.1 HK7.out).1).trans HK7.out);have n8_:=A0_.mk (HBW.out.trans (hb.mono HBW.out.size));clear hb HBW HK7;have HK7:=n7_;have HBW:=n8_;clear n7_ n8_)|go_in)
    repeat (go_quiet (fail);try go_wp2)
    have e0 : (w2.alloc (.cells #[.int .i64 0,.int .i64 2] 40)).cell? ⟨w2.heap.size,0,none⟩ = some (.int .i64 0):=(bC_ (blk_new w2 _) 0).trans rfl
    have e1 : (w2.alloc (.cells #[.int .i64 0,.int .i64 2] 40)).cell? ⟨w2.heap.size,1,none⟩ = some (.int .i64 2):=(bC_ (blk_new w2 _) 1).trans rfl
    refine wp_normal' ?_
    refine start_ (n:=3) (S:=fun w' => w'.cell? ⟨w2.heap.size,0,none⟩ = some (.int .i64 0) ∧ w'.cell? ⟨w2.heap.size,1,none⟩ = some (.int .i64 2)) (ds:=[2]) #[false,false,false] (by kernel_rfl) rfl rfl ⟨e0,e1⟩ (fun hHeld => ?_)
    refine take_ (i:=0) (N:=some 24) (v:=?_) (a':=?_) #[true,false,false] rfl rfl (by kernel_rfl) (fun _ _ _ h => by cases h.1) (Or.inl ⟨by rfl,?_⟩) hHeld ?_ ?_
    rotate_left
    · intro w' s0
      obtain ⟨s1,s2⟩:=s0
      go_simp
      with_reducible rfl
    rotate_left
    · simp only [Act.put,List.setIfInBounds_toArray,List.set_cons_zero,List.set_cons_succ]
      rfl
    refine pure_ (i:=1) (N:=some 6) (v:=?_) (a':=?_) #[true,true,false] rfl rfl (by kernel_rfl) (fun _ _ _ h => by cases h.1) (Or.inl ⟨by rfl,?_⟩) ?_ ?_
    rotate_left
    · intro w'
      go_simp
      with_reducible rfl
    rotate_left
    · simp only [Act.put,List.setIfInBounds_toArray,List.set_cons_zero,List.set_cons_succ]
      rfl
    have k7 : (w2.alloc (.cells #[.int .i64 0,.int .i64 2] 40)).drew.heap[w.heap.size]? = some (.cells #[.int .i64 0,.int .i64 0] 40 (0,0)):=bA_ HK7.out _
    have hbd : Below w.heap.size w (w2.alloc (.cells #[.int .i64 0,.int .i64 2] 40)).drew:=below_drew (eA_ HBW.out _)
    generalize (w2.alloc (.cells #[.int .i64 0,.int .i64 2] 40)).drew = wd at hHeld k7 hbd ⊢
    have f5 : wd.cell? ⟨w.heap.size,0,none⟩ = some (.int .i64 0):=(bC_ k7 0).trans rfl
    have f6 : wd.cell? ⟨w.heap.size,1,none⟩ = some (.int .i64 0):=(bC_ k7 1).trans rfl
    have g5:=bF_ k7 0
    have g6:=bF_ k7 1
    refine last_ (i:=2) (N:=none) #[true,true,true] rfl rfl (by kernel_rfl) (by decide) (fun K hK => ?_)
    refine skip_ (w1:=(wd.setCell ⟨w.heap.size,0,none⟩ (.int .i64 0)).setCell ⟨w.heap.size,1,none⟩ (.int .i64 2)) rfl rfl ?_ ?_
    · go_simp
    refine hK.out _ _ ?_
    clear hK K
    have k7e:=blk_put (cs:=#[.int .i64 0,.int .i64 0]) (blk_put (cs:=#[.int .i64 0,.int .i64 0]) k7 0 (.int .i64 0) rfl) 1 (.int .i64 2) rfl
    have hbe:=eS_ (eS_ hbd (Nat.le_refl w.heap.size) (j:=0) (v:=.int .i64 0)) (Nat.le_refl w.heap.size) (j:=1) (v:=.int .i64 2)
    refine done_ (by kernel_rfl) ⟨rfl,?_⟩
    rename_i hKK
    refine hKK _ _ ?_
    go_wp2
    exact bodyPost_ret (results_tc (u:=6) (p:=7) rfl _ _ w.heap.size 40 #[.int .i64 0,.int .i64 2] (0,0) _ rfl k7e Tryd.underlying40 rfl (by kernel_rfl)) rfl ⟨_,rfl,Kd.R_nil _ _ _ _ _,hbe⟩
  · rw [if_neg c1] at h
    obtain ⟨b,hz,h⟩:=Option.bind_eq_some_iff.1 h
    cases b with
    | false =>
      rw [if_pos rfl] at h
      simp only [Option.some.injEq,Prod.mk.injEq] at h
      obtain ⟨rfl,rfl,rfl⟩:=h
      go_enter Tryd.func20,Tryd.ntmps20
      go_wp2_with (first|((with_reducible refine gate_callee (f:=46) rfl ?_);refine goesL_ (some 18) rfl rfl Tryd.func46 (by kernel_rfl) rfl #[.string a0,.int .i64 a1,.int .i64 a2] rfl (by (try simp only [List.map_toArray,List.map_cons,List.map_nil]);first|done|rfl) ?_;(with_reducible refine (stim_begun_range a0 a1 a2 _ c1 hz).mono ?_);rintro e w2 ⟨rfl,hb⟩;refine ⟨_,rfl,?_⟩;have n7_:=A0_.mk ((hb.block _ (Array.getElem?_eq_some_iff.1 HK7.out).1).trans HK7.out);have n8_:=A0_.mk (HBW.out.trans (hb.mono HBW.out.size));clear hb HBW HK7;have HK7:=n7_;have HBW:=n8_;clear n7_ n8_)|go_in)
      repeat (go_quiet (fail);try go_wp2)
      have e0 : (w2.alloc (.cells #[.int .i64 0,.int .i64 1] 40)).cell? ⟨w2.heap.size,0,none⟩ = some (.int .i64 0):=(bC_ (blk_new w2 _) 0).trans rfl
      have e1 : (w2.alloc (.cells #[.int .i64 0,.int .i64 1] 40)).cell? ⟨w2.heap.size,1,none⟩ = some (.int .i64 1):=(bC_ (blk_new w2 _) 1).trans rfl
      refine wp_normal' ?_
      refine start_ (n:=3) (S:=fun w' => w'.cell? ⟨w2.heap.size,0,none⟩ = some (.int .i64 0) ∧ w'.cell? ⟨w2.heap.size,1,none⟩ = some (.int .i64 1)) (ds:=[2]) #[false,false,false] (by kernel_rfl) rfl rfl ⟨e0,e1⟩ (fun hHeld => ?_)
      refine take_ (i:=0) (N:=some 24) (v:=?_) (a':=?_) #[true,false,false] rfl rfl (by kernel_rfl) (fun _ _ _ h => by cases h.1) (Or.inl ⟨by rfl,?_⟩) hHeld ?_ ?_
      rotate_left
      · intro w' s0
        obtain ⟨s1,s2⟩:=s0
        go_simp
        with_reducible rfl
      rotate_left
      · simp only [Act.put,List.setIfInBounds_toArray,List.set_cons_zero,List.set_cons_succ]
        rfl
      refine pure_ (i:=1) (N:=some 6) (v:=?_) (a':=?_) #[true,true,false] rfl rfl (by kernel_rfl) (fun _ _ _ h => by cases h.1) (Or.inl ⟨by rfl,?_⟩) ?_ ?_
      rotate_left
      · intro w'
        go_simp
        with_reducible rfl
      rotate_left
      · simp only [Act.put,List.setIfInBounds_toArray,List.set_cons_zero,List.set_cons_succ]
        rfl
      have k7 : (w2.alloc (.cells #[.int .i64 0,.int .i64 1] 40)).drew.heap[w.heap.size]? = some (.cells #[.int .i64 0,.int .i64 0] 40 (0,0)):=bA_ HK7.out _
      have hbd : Below w.heap.size w (w2.alloc (.cells #[.int .i64 0,.int .i64 1] 40)).drew:=below_drew (eA_ HBW.out _)
      generalize (w2.alloc (.cells #[.int .i64 0,.int .i64 1] 40)).drew = wd at hHeld k7 hbd ⊢
      have f5 : wd.cell? ⟨w.heap.size,0,none⟩ = some (.int .i64 0):=(bC_ k7 0).trans rfl
      have f6 : wd.cell? ⟨w.heap.size,1,none⟩ = some (.int .i64 0):=(bC_ k7 1).trans rfl
      have g5:=bF_ k7 0
      have g6:=bF_ k7 1
      refine last_ (i:=2) (N:=none) #[true,true,true] rfl rfl (by kernel_rfl) (by decide) (fun K hK => ?_)
      refine skip_ (w1:=(wd.setCell ⟨w.heap.size,0,none⟩ (.int .i64 0)).setCell ⟨w.heap.size,1,none⟩ (.int .i64 1)) rfl rfl ?_ ?_
      · go_simp
      refine hK.out _ _ ?_
      clear hK K
      have k7e:=blk_put (cs:=#[.int .i64 0,.int .i64 0]) (blk_put (cs:=#[.int .i64 0,.int .i64 0]) k7 0 (.int .i64 0) rfl) 1 (.int .i64 1) rfl
      have hbe:=eS_ (eS_ hbd (Nat.le_refl w.heap.size) (j:=0) (v:=.int .i64 0)) (Nat.le_refl w.heap.size) (j:=1) (v:=.int .i64 1)
      refine done_ (by kernel_rfl) ⟨rfl,?_⟩
      rename_i hKK
      refine hKK _ _ ?_
      go_wp2
      exact bodyPost_ret (results_tc (u:=6) (p:=7) rfl _ _ w.heap.size 40 #[.int .i64 0,.int .i64 1] (0,0) _ rfl k7e Tryd.underlying40 rfl (by kernel_rfl)) rfl ⟨_,rfl,Kd.R_nil _ _ _ _ _,hbe⟩
    | true =>
      rw [if_neg (by decide)] at h
      go_enter Tryd.func20,Tryd.ntmps20
      go_upto_region 2 with (first|((with_reducible refine gate_callee (f:=46) rfl ?_);refine goesL_ (some 18) rfl rfl Tryd.func46 (by kernel_rfl) rfl #[.string a0,.int .i64 a1,.int .i64 a2] rfl (by (try simp only [List.map_toArray,List.map_cons,List.map_nil]);first|done|rfl) ?_;(with_reducible refine (stim_begun_made a0 a1 a2 _ c1 hz).mono ?_);rintro e w2 ⟨g,rfl,hI,hb⟩;refine ⟨_,rfl,?_⟩;have n7_:=A0_.mk ((hb.block _ (Array.getElem?_eq_some_iff.1 HK7.out).1).trans HK7.out);have n8_:=A0_.mk (HBW.out.trans (hb.mono HBW.out.size));have n9_:=A0_.mk hI;clear hb hI HBW HK7;have HK7:=n7_;have HBW:=n8_;have HI:=n9_;clear n7_ n8_ n9_))
      have HW0 : Below w.heap.size w (w2.alloc (.cells #[.int .i64 0,.int .i64 0] 40)):=eA_ HBW.out _
      have hI2 : IsS98 w (w2.alloc (.cells #[.int .i64 0,.int .i64 0] 40)) g a0 0 a1 a2:=⟨bA_ HI.out.1 _,Nat.le_trans (by simp only [World.size_alloc];omega) HI.out.2⟩
      have k7 : (w2.alloc (.cells #[.int .i64 0,.int .i64 0] 40)).heap[w.heap.size]? = some (.cells #[.int .i64 0,.int .i64 0] 40 (0,0)):=bA_ HK7.out _
      have k9 : (w2.alloc (.cells #[.int .i64 0,.int .i64 0] 40)).heap[w2.heap.size]? = some (.cells #[.int .i64 0,.int .i64 0] 40 (0,0)):=blk_new w2 _
      clear HI HK7 HBW
      generalize w2.heap.size = g9 at k9 ⊢
      generalize w2.alloc (.cells #[.int .i64 0,.int .i64 0] 40) = w3 at HW0 hI2 k7 k9 ⊢
      have f0 : w3.cell? ⟨g9,0,none⟩ = some (.int .i64 0):=(bC_ k9 0).trans rfl
      have f1 : w3.cell? ⟨g9,1,none⟩ = some (.int .i64 0):=(bC_ k9 1).trans rfl
      have HI:=A0_.mk hI2
      have HK7:=A0_.mk k7
      have HBW:=A0_.mk HW0
      clear hI2 k7 HW0
      have HH:=A0_.mk h
      clear h
      go_wp2
      repeat (go_quiet (fail);try go_wp2)
      (try simp only [Act.put,List.setIfInBounds_toArray,List.set_cons_zero,List.set_cons_succ])
      clear f0 f1 k9 hz c1 h
      go_loopg [10] (a0.size + 2) (fun kq v10 w' => ∃ (i : Int) (out : List S28),A0_ (allRun a0 a1 a2 kq i out = some (r1,r2,r3)) ∧ A0_ (IsS98 w w' g a0 i a1 a2) ∧ A0_ (w'.heap[w.heap.size]? = some (.cells #[.int .i64 0,.int .i64 0] 40 (0,0))) ∧ A0_ (Kd.R k28 28 w' w.heap.size (fun _ => True) v10 out) ∧ A0_ (Below w.heap.size w w'))
      case atStart => exact ⟨0,[],HH,HI,HK7,⟨Kd.R_nil _ _ _ _ _⟩,HBW⟩
      case round =>
        clear HH HI HK7 HBW
        obtain ⟨i,out,HH,HI,HK7,HR,HB⟩:=hrel
        cases gk with
        | zero => exact absurd HH.out (by simp [allRun])
        | succ k1 =>
          have hh:=HH.out
          rw [allRun] at hh
          clear HH
          have HH:=A0_.mk hh
          clear hh
          obtain ⟨A9,n9,rfl⟩:=Kd.R_slice HR.out
          have i1 : wr.cell? ⟨g,1,none⟩ = some (.int .i64 i):=(bC_ HI.out.1 1).trans rfl
          have y0 : wr.cell? ⟨w.heap.size,0,none⟩ = some (.int .i64 0):=(bC_ HK7.out 0).trans rfl
          have y1 : wr.cell? ⟨w.heap.size,1,none⟩ = some (.int .i64 0):=(bC_ HK7.out 1).trans rfl
          have x0:=bF_ HK7.out 0
          have x1:=bF_ HK7.out 1
          by_cases ci : i < (a0.size : Int)
          · have cib : decide (i < (a0.size : Int)) = true:=decide_eq_true ci
            have hh:=HH.out
            rw [if_pos ci] at hh
            obtain ⟨⟨q1,q2,q3,q4,q5,q6,q7,q8,q9,q10,q11⟩,ho,hh⟩:=Option.bind_eq_some_iff.1 hh
            dsimp only at hh
            have HO:=A0_.mk ho
            clear HH ho
            have HH:=A0_.mk hh
            clear hh y0 y1 x0 x1
            go_upto_region 8 with (first|((with_reducible refine gate_callee (f:=47) rfl ?_);refine goesL_ (some 38) rfl rfl Tryd.func47 (by kernel_rfl) rfl #[.pointer (some ⟨g,0,none⟩)] rfl (by (try simp only [List.map_toArray,List.map_cons,List.map_nil]);first|done|rfl) ?_;(with_reducible refine (stim_reader_one.calls (2 * a0.size + 100) g a0 i a1 a2 q1 q2 q3 q4 q5 q6 q7 q8 q9 q10 q11 w wr HG.out HI.out HB.out HO.out).mono ?_);rintro e w4 ⟨v1,v2,v3,rfl,ho1,ho2,ho3,hI3,hb3,hk⟩;refine ⟨_,rfl,?_⟩;obtain ⟨A1,n1,rfl⟩:=Kd.R_slice ho1;obtain ⟨A2,n2,rfl⟩:=Kd.R_slice ho2;obtain ⟨A3,n3,rfl⟩:=Kd.R_slice (Kd.S_R ho3);have n7_:=A0_.mk ((hk.2 _ (Array.getElem?_eq_some_iff.1 HK7.out).1 (fun e => by have:=HI.out.1;rw [← e,HK7.out] at this;cases this) (by simp)).trans HK7.out);have nr_:=A0_.mk (Kd.R_set_keep_ HR.out HI.out.1 (by decide) hk);have no_:=A0_.mk (Out3.lower ⟨ho1,ho2,ho3⟩ HB.out.size);clear i1 HB HK7 HI HR;have HK7:=n7_;have HR:=nr_;have HO3:=no_;have HI:=A0_.mk hI3;have HB:=A0_.mk hb3;clear n7_ nr_ no_ hI3 hb3 hk ho1 ho2 ho3))
            have k10 : ((w4.alloc (.cells #[.int .i64 q1,.slice A1 q2.length n1,.slice A2 q3.length n2,.slice A3 q4.length n3,.int .i64 q5] 28)).alloc (.cells #[.int .i64 q6,.int .i64 q7] 40)).heap[w4.heap.size]? = some (.cells #[.int .i64 q1,.slice A1 q2.length n1,.slice A2 q3.length n2,.slice A3 q4.length n3,.int .i64 q5] 28 (0,0)):=bA_ (blk_new w4 _) _
            have k11 : ((w4.alloc (.cells #[.int .i64 q1,.slice A1 q2.length n1,.slice A2 q3.length n2,.slice A3 q4.length n3,.int .i64 q5] 28)).alloc (.cells #[.int .i64 q6,.int .i64 q7] 40)).heap[w4.heap.size + 1]? = some (.cells #[.int .i64 q6,.int .i64 q7] 40 (0,0)):=by have:=blk_new (w4.alloc (.cells #[.int .i64 q1,.slice A1 q2.length n1,.slice A2 q3.length n2,.slice A3 q4.length n3,.int .i64 q5] 28)) (.cells #[.int .i64 q6,.int .i64 q7] 40);simpa using this
            have hI5 : IsS98 w ((w4.alloc (.cells #[.int .i64 q1,.slice A1 q2.length n1,.slice A2 q3.length n2,.slice A3 q4.length n3,.int .i64 q5] 28)).alloc (.cells #[.int .i64 q6,.int .i64 q7] 40)) g q8 q9 q10 q11:=IsS98.alloc (IsS98.alloc HI.out _) _
            have k7 : ((w4.alloc (.cells #[.int .i64 q1,.slice A1 q2.length n1,.slice A2 q3.length n2,.slice A3 q4.length n3,.int .i64 q5] 28)).alloc (.cells #[.int .i64 q6,.int .i64 q7] 40)).heap[w.heap.size]? = some (.cells #[.int .i64 0,.int .i64 0] 40 (0,0)):=bA_ (bA_ HK7.out _) _
            have hR5 : Kd.R k28 28 ((w4.alloc (.cells #[.int .i64 q1,.slice A1 q2.length n1,.slice A2 q3.length n2,.slice A3 q4.length n3,.int .i64 q5] 28)).alloc (.cells #[.int .i64 q6,.int .i64 q7] 40)) w.heap.size (fun _ => True) (.slice A9 out.length n9) out:=Kd.R_below HR.out (eA_ (eA_ (Below.refl _ _) _) _)
            have hO5 : Out3 ((w4.alloc (.cells #[.int .i64 q1,.slice A1 q2.length n1,.slice A2 q3.length n2,.slice A3 q4.length n3,.int .i64 q5] 28)).alloc (.cells #[.int .i64 q6,.int .i64 q7] 40)) w.heap.size (.slice A1 q2.length n1) (.slice A2 q3.length n2) (.slice A3 q4.length n3) q2 q3 q4:=Out3.alloc (Out3.alloc HO3.out _) _
            have hB5 : Below w.heap.size w ((w4.alloc (.cells #[.int .i64 q1,.slice A1 q2.length n1,.slice A2 q3.length n2,.slice A3 q4.length n3,.int .i64 q5] 28)).alloc (.cells #[.int .i64 q6,.int .i64 q7] 40)):=eA_ (eA_ HB.out _) _
            generalize w4.heap.size = g10 at k10 k11 ⊢
            generalize (w4.alloc (.cells #[.int .i64 q1,.slice A1 q2.length n1,.slice A2 q3.length n2,.slice A3 q4.length n3,.int .i64 q5] 28)).alloc (.cells #[.int .i64 q6,.int .i64 q7] 40) = w5 at k10 k11 hI5 k7 hR5 hO5 hB5 ⊢
            clear HI HK7 HR HO3 HB HO
            have HI:=A0_.mk hI5
            have HK7:=A0_.mk k7
            have HR:=A0_.mk hR5
            have HO3:=A0_.mk hO5
            have HB:=A0_.mk hB5
            have HK10:=A0_.mk k10
            have HK11:=A0_.mk k11
            have f0 : w5.cell? ⟨g10 + 1,0,none⟩ = some (.int .i64 q6):=(bC_ k11 0).trans rfl
            have f1 : w5.cell? ⟨g10 + 1,1,none⟩ = some (.int .i64 q7):=(bC_ k11 1).trans rfl
            clear hI5 k7 hR5 hO5 hB5 k10 k11
            by_cases cq6 : q6 = 0
            · by_cases cq7 : q7 = 0
              · subst cq6 cq7
                have hh:=HH.out
                rw [if_pos ⟨rfl,rfl⟩] at hh
                by_cases cs_ : q8 = a0 ∧ q10 = a1 ∧ q11 = a2
                · rw [if_pos cs_] at hh
                  obtain ⟨rfl,rfl,rfl⟩:=cs_
                  by_cases cl : out.length = 16384
                  · rw [if_pos cl] at hh
                    simp only [Option.some.injEq,Prod.mk.injEq] at hh
                    obtain ⟨rfl,rfl,rfl⟩:=hh
                    have clb : ((out.length : Int) == 16384) = true:=beq_iff_eq.mpr (by omega)
                    have y0 : w5.cell? ⟨w.heap.size,0,none⟩ = some (.int .i64 0):=(bC_ HK7.out 0).trans rfl
                    have y1 : w5.cell? ⟨w.heap.size,1,none⟩ = some (.int .i64 0):=(bC_ HK7.out 1).trans rfl
                    have x0:=bF_ HK7.out 0
                    have x1:=bF_ HK7.out 1
                    go_wp2
                    repeat (go_quiet (fail);try go_wp2)
                    have k7e:=blk_put (cs:=#[.int .i64 i,.int .i64 0]) (blk_put (cs:=#[.int .i64 0,.int .i64 0]) HK7.out 0 (.int .i64 i) rfl) 1 (.int .i64 2) rfl
                    have hbe:=eS_ (eS_ HB.out (Nat.le_refl w.heap.size) (j:=0) (v:=.int .i64 i)) (Nat.le_refl w.heap.size) (j:=1) (v:=.int .i64 2)
                    exact bodyPost_ret (results_tc (u:=6) (p:=7) rfl _ _ w.heap.size 40 #[.int .i64 i,.int .i64 2] (0,0) _ rfl k7e Tryd.underlying40 rfl (by kernel_rfl)) rfl ⟨_,rfl,Kd.R_nil _ _ _ _ _,hbe⟩
                  · rw [if_neg cl] at hh
                    by_cases cm : out.length < 16384
                    · rw [if_pos cm] at hh
                      clear HH
                      have HH:=A0_.mk hh
                      clear hh
                      have clb : ((out.length : Int) == 16384) = false:=beq_eq_false_iff_ne.mpr (by omega)
                      have hM : k28.M w5 w.heap.size (fun k => some k ≠ (Value.slice A9 out.length n9).ownBlock) ⟨q1,q2,⟨q3,q4,q5⟩⟩ [.int .i64 q1,.slice A1 q2.length n1,.slice A2 q3.length n2,.slice A3 q4.length n3,.int .i64 q5]:=M_ne_own (k28_mkM w5 w.heap.size (fun _ => True) ⟨q1,q2,⟨q3,q4,q5⟩⟩ HO3.out.1 HO3.out.2.1 (Kd.R_mono (Kd.S_R HO3.out.2.2) (fun _ _ => trivial))) HR.out (by decide)
                      have HM:=A0_.mk hM
                      clear hM
                      have t0 : w5.cell? ⟨g10,0,none⟩ = some (.int .i64 q1):=(bC_ HK10.out 0).trans rfl
                      have t1 : w5.cell? ⟨g10,1,none⟩ = some (.slice A1 q2.length n1):=(bC_ HK10.out 1).trans rfl
                      have t2 : w5.cell? ⟨g10,2,none⟩ = some (.slice A2 q3.length n2):=(bC_ HK10.out 2).trans rfl
                      have t3 : w5.cell? ⟨g10,3,none⟩ = some (.slice A3 q4.length n3):=(bC_ HK10.out 3).trans rfl
                      have t4 : w5.cell? ⟨g10,4,none⟩ = some (.int .i64 q5):=(bC_ HK10.out 4).trans rfl
                      go_wp2_with (first|(at_builtin;refine Kd.R_append k28 (w0:=w) w.heap.size rfl (.tmp 50) (.tmp 52) 43 28 (.agg #[(.int .i64 0),(.slice none 0 0),(.slice none 0 0),(.slice none 0 0),(.int .i64 0)]) 88 rfl Tryd.underlying43 info28 rfl (by decide) (by decide) (.slice A9 out.length n9) out ⟨q1,q2,⟨q3,q4,q5⟩⟩ [.int .i64 q1,.slice A1 q2.length n1,.slice A2 q3.length n2,.slice A3 q4.length n3,.int .i64 q5] (fun _ => True) (fun k => some k ≠ (Value.slice A9 out.length n9).ownBlock) rfl rfl HM.out (fun _ h => ⟨trivial,h⟩) (fun _ _ => trivial) HR.out HB.out HB.out.size (by omega) ?_;intro v6 w6 hr6 hb6 hg6 hat6)|go_in)
                      repeat (go_quiet (fail);try go_wp2)
                      have HR6:=A0_.mk hr6
                      have HB6:=A0_.mk hb6
                      have HI6 : A0_ (IsS98 w w6 g q8 q9 q10 q11):=⟨⟨(hg6.block g (Array.getElem?_eq_some_iff.1 HI.out.1).1 (Kd.R_ne HR.out HI.out.1 (by decide))).trans HI.out.1,HI.out.2⟩⟩
                      have HK6 : A0_ (w6.heap[w.heap.size]? = some (.cells #[.int .i64 0,.int .i64 0] 40 (0,0))):=⟨(hg6.block _ (Array.getElem?_eq_some_iff.1 HK7.out).1 (Kd.R_ne HR.out HK7.out (by decide))).trans HK7.out⟩
                      clear hr6 hb6 hg6 hat6
                      go_roundg k1
                      case measure => omega
                      case rel => exact ⟨q9,out ++ [⟨q1,q2,⟨q3,q4,q5⟩⟩],HH,HI6,HK6,HR6,HB6⟩
                    · rw [if_neg cm] at hh
                      cases hh
                · rw [if_neg cs_] at hh
                  cases hh
              · have cq7b : (q7 == 0) = false:=beq_eq_false_iff_ne.mpr cq7
                have cq6b : (q6 == 0) = true:=beq_iff_eq.mpr cq6
                have hh:=HH.out
                rw [if_neg (by intro e_;exact cq7 e_.2)] at hh
                simp only [Option.some.injEq,Prod.mk.injEq] at hh
                obtain ⟨rfl,rfl,rfl⟩:=hh
                go_wp2
                repeat (go_quiet (fail);try go_wp2)
                have e0 : (w5).cell? ⟨g10 + 1,0,none⟩ = some (.int .i64 q6):=f0
                have e1 : (w5).cell? ⟨g10 + 1,1,none⟩ = some (.int .i64 q7):=f1
                refine wp_normal' ?_
                refine start_ (n:=3) (S:=fun w' => w'.cell? ⟨g10 + 1,0,none⟩ = some (.int .i64 q6) ∧ w'.cell? ⟨g10 + 1,1,none⟩ = some (.int .i64 q7)) (ds:=[2]) #[false,false,false] (by kernel_rfl) rfl rfl ⟨e0,e1⟩ (fun hHeld => ?_)
                refine take_ (i:=0) (N:=some 44) (v:=?_) (a':=?_) #[true,false,false] rfl rfl (by kernel_rfl) (fun _ _ _ h => by cases h.1) (Or.inl ⟨by rfl,?_⟩) hHeld ?_ ?_
                rotate_left
                · intro w' s0
                  obtain ⟨s1,s2⟩:=s0
                  go_simp
                  with_reducible rfl
                rotate_left
                · simp only [Act.put,List.setIfInBounds_toArray,List.set_cons_zero,List.set_cons_succ]
                  rfl
                refine pure_ (i:=1) (N:=some 6) (v:=?_) (a':=?_) #[true,true,false] rfl rfl (by kernel_rfl) (fun _ _ _ h => by cases h.1) (Or.inl ⟨by rfl,?_⟩) ?_ ?_
                rotate_left
                · intro w'
                  go_simp
                  with_reducible rfl
                rotate_left
                · simp only [Act.put,List.setIfInBounds_toArray,List.set_cons_zero,List.set_cons_succ]
                  rfl
                have k7 : (w5).drew.heap[w.heap.size]? = some (.cells #[.int .i64 0,.int .i64 0] 40 (0,0)):=HK7.out
                have hbd : Below w.heap.size w (w5).drew:=below_drew HB.out
                generalize (w5).drew = wd at hHeld k7 hbd ⊢
                have f5 : wd.cell? ⟨w.heap.size,0,none⟩ = some (.int .i64 0):=(bC_ k7 0).trans rfl
                have f6 : wd.cell? ⟨w.heap.size,1,none⟩ = some (.int .i64 0):=(bC_ k7 1).trans rfl
                have g5:=bF_ k7 0
                have g6:=bF_ k7 1
                refine last_ (i:=2) (N:=none) #[true,true,true] rfl rfl (by kernel_rfl) (by decide) (fun K hK => ?_)
                refine skip_ (w1:=(wd.setCell ⟨w.heap.size,0,none⟩ (.int .i64 q6)).setCell ⟨w.heap.size,1,none⟩ (.int .i64 q7)) rfl rfl ?_ ?_
                · go_simp
                refine hK.out _ _ ?_
                clear hK K
                have k7e:=blk_put (cs:=#[.int .i64 q6,.int .i64 0]) (blk_put (cs:=#[.int .i64 0,.int .i64 0]) k7 0 (.int .i64 q6) rfl) 1 (.int .i64 q7) rfl
                have hbe:=eS_ (eS_ hbd (Nat.le_refl w.heap.size) (j:=0) (v:=.int .i64 q6)) (Nat.le_refl w.heap.size) (j:=1) (v:=.int .i64 q7)
                refine done_ (by kernel_rfl) ⟨rfl,?_⟩
                rename_i hKK
                refine hKK _ _ ?_
                go_wp2
                exact bodyPost_ret (results_tc (u:=6) (p:=7) rfl _ _ w.heap.size 40 #[.int .i64 q6,.int .i64 q7] (0,0) _ rfl k7e Tryd.underlying40 rfl (by kernel_rfl)) rfl ⟨_,rfl,Kd.R_nil _ _ _ _ _,hbe⟩
            · have cq6b : (q6 == 0) = false:=beq_eq_false_iff_ne.mpr cq6
              have hh:=HH.out
              rw [if_neg (by intro e_;exact cq6 e_.1)] at hh
              simp only [Option.some.injEq,Prod.mk.injEq] at hh
              obtain ⟨rfl,rfl,rfl⟩:=hh
              go_wp2
              repeat (go_quiet (fail);try go_wp2)
              have e0 : (w5).cell? ⟨g10 + 1,0,none⟩ = some (.int .i64 q6):=f0
              have e1 : (w5).cell? ⟨g10 + 1,1,none⟩ = some (.int .i64 q7):=f1
              refine wp_normal' ?_
              refine start_ (n:=3) (S:=fun w' => w'.cell? ⟨g10 + 1,0,none⟩ = some (.int .i64 q6) ∧ w'.cell? ⟨g10 + 1,1,none⟩ = some (.int .i64 q7)) (ds:=[2]) #[false,false,false] (by kernel_rfl) rfl rfl ⟨e0,e1⟩ (fun hHeld => ?_)
              refine take_ (i:=0) (N:=some 44) (v:=?_) (a':=?_) #[true,false,false] rfl rfl (by kernel_rfl) (fun _ _ _ h => by cases h.1) (Or.inl ⟨by rfl,?_⟩) hHeld ?_ ?_
              rotate_left
              · intro w' s0
                obtain ⟨s1,s2⟩:=s0
                go_simp
                with_reducible rfl
              rotate_left
              · simp only [Act.put,List.setIfInBounds_toArray,List.set_cons_zero,List.set_cons_succ]
                rfl
              refine pure_ (i:=1) (N:=some 6) (v:=?_) (a':=?_) #[true,true,false] rfl rfl (by kernel_rfl) (fun _ _ _ h => by cases h.1) (Or.inl ⟨by rfl,?_⟩) ?_ ?_
              rotate_left
              · intro w'
                go_simp
                with_reducible rfl
              rotate_left
              · simp only [Act.put,List.setIfInBounds_toArray,List.set_cons_zero,List.set_cons_succ]
                rfl
              have k7 : (w5).drew.heap[w.heap.size]? = some (.cells #[.int .i64 0,.int .i64 0] 40 (0,0)):=HK7.out
              have hbd : Below w.heap.size w (w5).drew:=below_drew HB.out
              generalize (w5).drew = wd at hHeld k7 hbd ⊢
              have f5 : wd.cell? ⟨w.heap.size,0,none⟩ = some (.int .i64 0):=(bC_ k7 0).trans rfl
              have f6 : wd.cell? ⟨w.heap.size,1,none⟩ = some (.int .i64 0):=(bC_ k7 1).trans rfl
              have g5:=bF_ k7 0
              have g6:=bF_ k7 1
              refine last_ (i:=2) (N:=none) #[true,true,true] rfl rfl (by kernel_rfl) (by decide) (fun K hK => ?_)
              refine skip_ (w1:=(wd.setCell ⟨w.heap.size,0,none⟩ (.int .i64 q6)).setCell ⟨w.heap.size,1,none⟩ (.int .i64 q7)) rfl rfl ?_ ?_
              · go_simp
              refine hK.out _ _ ?_
              clear hK K
              have k7e:=blk_put (cs:=#[.int .i64 q6,.int .i64 0]) (blk_put (cs:=#[.int .i64 0,.int .i64 0]) k7 0 (.int .i64 q6) rfl) 1 (.int .i64 q7) rfl
              have hbe:=eS_ (eS_ hbd (Nat.le_refl w.heap.size) (j:=0) (v:=.int .i64 q6)) (Nat.le_refl w.heap.size) (j:=1) (v:=.int .i64 q7)
              refine done_ (by kernel_rfl) ⟨rfl,?_⟩
              rename_i hKK
              refine hKK _ _ ?_
              go_wp2
              exact bodyPost_ret (results_tc (u:=6) (p:=7) rfl _ _ w.heap.size 40 #[.int .i64 q6,.int .i64 q7] (0,0) _ rfl k7e Tryd.underlying40 rfl (by kernel_rfl)) rfl ⟨_,rfl,Kd.R_nil _ _ _ _ _,hbe⟩
          · have cib : decide (i < (a0.size : Int)) = false:=decide_eq_false ci
            have hh:=HH.out
            rw [if_neg ci] at hh
            simp only [Option.some.injEq,Prod.mk.injEq] at hh
            obtain ⟨rfl,rfl,rfl⟩:=hh
            go_wp2
            repeat (go_quiet (fail);try go_wp2)
            have k7e:=blk_put (cs:=#[.int .i64 0,.int .i64 0]) (blk_put (cs:=#[.int .i64 0,.int .i64 0]) HK7.out 0 (.int .i64 0) rfl) 1 (.int .i64 0) rfl
            have hbe:=eS_ (eS_ HB.out (Nat.le_refl w.heap.size) (j:=0) (v:=.int .i64 0)) (Nat.le_refl w.heap.size) (j:=1) (v:=.int .i64 0)
            have hre:=Kd.R_set (Kd.R_set HR.out HK7.out (by decide) 0 (.int .i64 0)) (blk_put (cs:=#[.int .i64 0,.int .i64 0]) HK7.out 0 (.int .i64 0) rfl) (by decide) 1 (.int .i64 0)
            exact bodyPost_ret (results_tc (u:=6) (p:=7) rfl _ _ w.heap.size 40 #[.int .i64 0,.int .i64 0] (0,0) _ rfl k7e Tryd.underlying40 rfl (by kernel_rfl)) rfl ⟨_,rfl,hre,hbe⟩
end Go.Proofs.YtojepjkpnponoaaDoor.Stim

