import Derived.Test.YtojepjkpnponoaaDoorFStim0
import Derived.Test.YtojepjkpnponoaaDoorFGSplit
import Derived.Test.YtojepjkpnponoaaDoorFGNumber
import Derived.Test.YtojepjkpnponoaaDoorFGProps
import Derived.Test.YtojepjkpnponoaaDoorFIn
set_option linter.unusedVariables false
set_option linter.unusedSimpArgs false
namespace Go.Proofs.YtojepjkpnponoaaDoor.Stim
open Go Go.RowKit Go.Shelf Go.Proofs.YtojepjkpnponoaaDoorW.PrintWords Go.Proofs.YtojepjkpnponoaaDoorW.PrintLast Go.Proofs.YtojepjkpnponoaaDoorW.PrintMore
attribute [local go_sem] Oper.semAt_some
def propOf (x : ByteArray) : Option S83:=if x.size < 2 then none else if (numOf (x.extract 1 x.size).data.toList).2 = true then some ⟨bt x 0,(numOf (x.extract 1 x.size).data.toList).1⟩ else none
def propsOf : List ByteArray → Option (List S83)
 |[] => some []
 |x :: l => (propOf x).bind fun p => (propsOf l).bind fun ps => some (p :: ps)
theorem propsOf_snoc (l : List ByteArray) (x : ByteArray) : propsOf (l ++ [x]) = (propsOf l).bind fun ps => (propOf x).bind fun p => some (ps ++ [p]):=by
 induction l with
 |nil => cases h : propOf x <;> simp [propsOf,h]
 |cons y l ih =>
  simp only [List.cons_append,propsOf,ih]
  cases propOf y <;> cases propsOf l <;> cases propOf x <;> simp
theorem propsOf_len : ∀ (l : List ByteArray) (ps : List S83),propsOf l = some ps → ps.length = l.length
 |[],ps,h => by
  simp [propsOf] at h
  subst h
  rfl
 |x :: l,ps,h => by
  simp only [propsOf,Option.bind_eq_some_iff] at h
  obtain ⟨p,_,qs,hq,h⟩:=h
  injection h with h
  subst h
  simp [propsOf_len l qs hq]
theorem propsOf_prefix {l m : List ByteArray} (h : propsOf l = none) (hp : l <+: m) : propsOf m = none:=by
 obtain ⟨k,rfl⟩:=hp
 induction l with
 |nil => simp [propsOf] at h
 |cons x l ih =>
  simp only [List.cons_append,propsOf] at h ⊢
  cases hx : propOf x with
  |none => rfl
  |some p =>
   rw [hx] at h
   simp only [Option.bind_some] at h ⊢
   cases hl : propsOf l with
   |none => rw [ih hl];rfl
   |some ps => rw [hl] at h;simp at h
theorem frags_len : ∀ l : List UInt8,(frags l).length ≤ l.length + 1
 |[] => by simp [frags]
 |c :: l => by
  have ih:=frags_len l
  unfold frags
  split
  ·simp;omega
  ·split
   ·rename_i f fs he
    rw [he] at ih
    simp at ih ⊢
    omega
   ·simp
theorem fragsB_len (s : ByteArray) : (fragsB s).length ≤ s.size + 1:=by
 have:=frags_len s.data.toList
 rw [size_list] at this
 simpa [fragsB] using this
def stim_properties.f (a0 : ByteArray) : Option ((List (S83)) × Bool) :=
 if a0.size < 4294967281 then match propsOf (fragsB a0) with
  |none => some ([],false)
  |some ps => (stim_props.f ps).bind fun e => some (ps,e == 0)
 else none
def PI (w : World) (pre : List Wd) (W : World) : Prop :=
 ∃ ps v s',propsOf (texts pre) = some ps ∧ Boxed W w.heap.size 22 (.slice none 0 0) ∧ Boxed W (w.heap.size + 1) 4 (.bool false) ∧ Boxed W (w.heap.size + 2) 22 v ∧ Kd.R k83 83 W w.heap.size (fun _ => True) v ps ∧
  Boxed W (w.heap.size + 3) 9 s' ∧ Boxed W (w.heap.size + 4) 9 (.string ⟨#[32]⟩) ∧ Boxed W (w.heap.size + 5) 3 (.int .i64 0) ∧ Below w.heap.size w W
def PX (w : World) (c : Code) (pre : List Wd) (W : World) : Prop :=
 c = .ret ∧ propsOf (texts pre) = none ∧ Boxed W w.heap.size 22 (.slice none 0 0) ∧ Boxed W (w.heap.size + 1) 4 (.bool false) ∧ Below w.heap.size w W
theorem boxed_at {W : World} {B : Nat} {t : TypeId} {v : Value} (h : Boxed W B t v) : W.heap[B]? = some (.cells #[v] t (0,0)):=h
theorem PI_own (w : World) (B : Nat) (hB : w.heap.size + 6 ≤ B) : OwnFrom B (PI w):=by
 rintro pre W W' row ⟨ps,v,s',h0,h1,h2,h3,h4,h5,h6,h7,h8⟩ hg hr
 have hne : ∀ b,b < B → some b ≠ row:=fun b hb e => by have:=(hr b e.symm).1;omega
 refine ⟨ps,v,s',h0,h1.kept hg (hne _ (by omega)),h2.kept hg (hne _ (by omega)),h3.kept hg (hne _ (by omega)),?_,h5.kept hg (hne _ (by omega)),h6.kept hg (hne _ (by omega)),h7.kept hg (hne _ (by omega)),h8.grown hg h8.size (fun k e => by have:=(hr k e).1;omega)⟩
 refine Kd.R_mono (Kd.R_grown (Kd.R_bound h4) hg ?_) (fun _ _ => trivial)
 rintro k ⟨_,_,_,q,_,cells,hc⟩ he
 obtain ⟨_,o,ho,hoc⟩:=hr k he.symm
 rw [hc] at ho
 injection ho with ho
 subst ho
 cases hoc
theorem PX_own (w : World) (c : Code) (B : Nat) (hB : w.heap.size + 6 ≤ B) : OwnFrom B (PX w c):=by
 rintro pre W W' row ⟨h0,h1,h2,h3,h4⟩ hg hr
 have hne : ∀ b,b < B → some b ≠ row:=fun b hb e => by have:=(hr b e.symm).1;omega
 exact ⟨h0,h1,h2.kept hg (hne _ (by omega)),h3.kept hg (hne _ (by omega)),h4.grown hg h4.size (fun k e => by have:=(hr k e).1;omega)⟩
theorem PI_set (w : World) (pre : List Wd) (W : World) (u : Value) (h : PI w pre W) : PI w pre (W.setCell ⟨w.heap.size + 3,0,none⟩ u):=by
 obtain ⟨ps,v,s',h0,h1,h2,h3,h4,h5,h6,h7,h8⟩:=h
 exact ⟨ps,v,u,h0,h1.other (by omega) _,h2.other (by omega) _,h3.other (by omega) _,Kd.R_set h4 (boxed_at h5) (by decide) 0 u,h5.set _,h6.other (by omega) _,h7.other (by omega) _,h8.setCell (p:=⟨w.heap.size + 3,0,none⟩) (by simp) _⟩
theorem wp_normal {P : Program} {c : Code} {Q : Exit → Act → World → Prop} {a : Act} {w : World} (h : c.wp P (fun e a w => e = .normal ∧ Q .normal a w) a w) : c.wp P Q a w :=
 Code.wp_mono (fun _ _ _ hq => by
  obtain ⟨rfl,hq⟩:=hq
  exact hq) h
theorem properties_ret {D : Nat} {a : Act} {w W : World} {v0 : Value} {r1 : List S83} {r2 : Bool} {ds : List Deferred} (hd : a.defers = [{ target:=.collected D,args:=#[] }]) (h2 : a.tmps.getD 2 undef = .pointer (some ⟨w.heap.size,0,none⟩)) (h3 : a.tmps.getD 3 undef = .pointer (some ⟨w.heap.size + 1,0,none⟩))
  (hDK : W.heap[D]? = some (.deferred (some ds))) (hds : ds = []) (hD : w.heap.size ≤ D) (k1 : Boxed W w.heap.size 22 v0) (k2 : Boxed W (w.heap.size + 1) 4 (.bool r2)) (hr : Kd.R k83 83 W w.heap.size (fun _ => True) v0 r1) (hb : Below w.heap.size w W) :
  bodyPostM Fence.wide 10 Tryd.prog Tryd.f75 (fun e w' => ∃ v0_ : Value,e = .returned (.tuple #[v0_,.bool r2]) ∧ Kd.R k83 83 w' w.heap.size (fun _ => True) v0_ r1 ∧ Below w.heap.size w w') .ret a W:=by
 subst hds
 show LeavesInM _ _ _ _ _ _ a.defers _ _
 rw [hd]
 refine ⟨by simp,.inl ⟨_,_,rfl,run_takeDeferred hDK,?_⟩⟩
 have hg:=grownBy_putObj' W D (.deferred none)
 have hne : ∀ b cs t f,W.heap[b]? = some (.cells cs t f) → some b ≠ some D:=by
  rintro b cs t f hbk he
  injection he with he
  subst he
  rw [hbk] at hDK
  cases hDK
 have c1 : (W.putObj D (.deferred none)).cell? ⟨w.heap.size,0,none⟩ = some v0:=(k1.kept hg (hne _ _ _ _ (boxed_at k1))).cell
 have c2 : (W.putObj D (.deferred none)).cell? ⟨w.heap.size + 1,0,none⟩ = some (.bool r2):=(k2.kept hg (hne _ _ _ _ (boxed_at k2))).cell
 refine ⟨.tuple #[v0,.bool r2],?_,v0,rfl,Kd.R_mono (Kd.R_grown (Kd.R_bound hr) hg ?_) (fun _ _ => trivial),hb.grown hg hb.size (fun k e => by injection e with e;omega)⟩
 ·have h2' : (a.tmps[2]?).getD undef = .pointer (some ⟨w.heap.size,0,none⟩):=by simpa using h2
  have h3' : (a.tmps[3]?).getD undef = .pointer (some ⟨w.heap.size + 1,0,none⟩):=by simpa using h3
  simp [results,Tryd.f75,go_sem,h2',h3',c1,c2]
 ·rintro k ⟨_,_,_,q,_,cells,hc⟩
  exact hne _ _ _ _ hc
set_option maxRecDepth 100000 in
set_option maxHeartbeats 2000000 in
theorem stim_properties.calls (a0 : ByteArray) (r1 : List (S83)) (r2 : Bool) (w : World) (hG : GV w) (h : stim_properties.f a0 = some (r1,r2)) :
  Calls Tryd.prog 75 #[.string a0] w fun e w' => ∃ v0_ : Value,e = .returned (.tuple #[v0_,.bool r2]) ∧ Kd.R k83 83 w' w.heap.size (fun _ => True) v0_ r1 ∧ Below w.heap.size w w':=by
 unfold stim_properties.f at h
 split at h
 ·rename_i hs
  have HH:=Lib.hid h
  have HS:=Lib.hid hs
  have HG:=Lib.hid hG
  clear h hs hG
  refine (callsIn_wide (n:=10)).1 ?_
  refine callsIn_of_wp_marks Tryd.func75 rfl trivial ?_ rfl
  simp only [Tryd.ntmps75,List.size_toArray,List.length_cons,List.length_nil,Nat.reduceAdd,Nat.reduceSub,Array.replicate_succ,Array.replicate_zero,List.push_toArray,List.append_toArray,List.nil_append,List.cons_append]
  gi_wp2
  have hm : Calls Tryd.prog 78 #[.string a0,.string ⟨#[32]⟩] (((w.alloc (.cells #[.slice none 0 0] 22)).alloc (.cells #[.bool false] 4)).alloc (.cells #[.slice none 0 0] 22)) fun e w' =>
    e = .returned (.func (.func 118) #[] #[.pointer (some ⟨w.heap.size + 4,0,none⟩),.pointer (some ⟨w.heap.size + 3,0,none⟩),.pointer (some ⟨w.heap.size + 5,0,none⟩)]) ∧ PI w [] w' ∧ w'.heap.size = w.heap.size + 6 ∧ Boxed w' (w.heap.size + 3) 9 (.string a0) ∧ Boxed w' (w.heap.size + 4) 9 (.string ⟨#[32]⟩) ∧ Boxed w' (w.heap.size + 5) 3 (.int .i64 0):=by
   refine (splitSeq_made a0 ⟨#[32]⟩ _).mono ?_
   rintro e w' ⟨rfl,rfl⟩
   have q0:=Boxed.new w 22 (.slice none 0 0)
   have q1:=Boxed.new (w.alloc (.cells #[.slice none 0 0] 22)) 4 (.bool false)
   have q2:=Boxed.new ((w.alloc (.cells #[.slice none 0 0] 22)).alloc (.cells #[.bool false] 4)) 22 (.slice none 0 0)
   have q3:=Boxed.new (((w.alloc (.cells #[.slice none 0 0] 22)).alloc (.cells #[.bool false] 4)).alloc (.cells #[.slice none 0 0] 22)) 9 (.string a0)
   have q4:=Boxed.new ((((w.alloc (.cells #[.slice none 0 0] 22)).alloc (.cells #[.bool false] 4)).alloc (.cells #[.slice none 0 0] 22)).alloc (.cells #[.string a0] 9)) 9 (.string ⟨#[32]⟩)
   have q5:=Boxed.new (((((w.alloc (.cells #[.slice none 0 0] 22)).alloc (.cells #[.bool false] 4)).alloc (.cells #[.slice none 0 0] 22)).alloc (.cells #[.string a0] 9)).alloc (.cells #[.string ⟨#[32]⟩] 9)) 3 (.int .i64 0)
   simp only [World.size_alloc,Nat.add_assoc,Nat.reduceAdd] at q0 q1 q2 q3 q4 q5
   have bl : Below w.heap.size w ((((((w.alloc (.cells #[.slice none 0 0] 22)).alloc (.cells #[.bool false] 4)).alloc (.cells #[.slice none 0 0] 22)).alloc (.cells #[.string a0] 9)).alloc (.cells #[.string ⟨#[32]⟩] 9)).alloc (.cells #[.int .i64 0] 3)):=eA_ (eA_ (eA_ (eA_ (eA_ (eA_ (Below.refl _ _) _) _) _) _) _) _
   refine ⟨by simp only [World.size_alloc,Nat.add_assoc,Nat.reduceAdd],⟨[],.slice none 0 0,.string a0,rfl,((((q0.alloc _).alloc _).alloc _).alloc _).alloc _,(((q1.alloc _).alloc _).alloc _).alloc _,((q2.alloc _).alloc _).alloc _,Kd.R_nil _ _ _ _ _,(q3.alloc _).alloc _,q4.alloc _,q5,bl⟩,by simp only [World.size_alloc,Nat.add_assoc,Nat.reduceAdd],(q3.alloc _).alloc _,q4.alloc _,q5⟩
  refine ⟨trivial,?_⟩
  refine (callsIn_wide.2 hm).mono ?_
  rintro e W0 ⟨rfl,hI0,hsz,b3,b4,b5⟩
  clear hm
  gi_wp2
  have hBp : Below w.heap.size w W0:=by obtain ⟨_,_,_,_,_,_,_,_,_,_,_,hb⟩:=hI0;exact hb
  refine wpIn_rangeFunc_ownS rfl (by omega) (gf:=118) (lb:=#[.pointer (some ⟨w.heap.size + 4,0,none⟩),.pointer (some ⟨w.heap.size + 3,0,none⟩),.pointer (some ⟨w.heap.size + 5,0,none⟩)]) rfl trivial (enters_of Tryd.func118 (by kernel_rfl) rfl)
   (splitSeq_stops _ (by omega) a0 (by have:=HS.out;omega) (w.heap.size + 3) (w.heap.size + 4) (w.heap.size + 5) W0 b3 b4 b5 (by omega) (by omega)) KpS.t
   (fun W l o o' hl hW _ _ => by
    have hlt:=(Array.getElem?_eq_some_iff.1 hW).1
    have hg:=grownBy_putObj' W l o'
    exact ⟨hg.size,hg.block _ (by omega) (by simp;omega),hg.block _ (by omega) (by simp;omega),hg.block _ (by omega) (by simp;omega)⟩)
   (Below.refl _ _) (fun _ => rfl) (PI w) (PX w) (PI_own w _ (by omega)) (fun c => PX_own w c _ (by omega)) (by omega) (PI_set w) hI0
   (fun x => { tmps:=#[.string a0,undef,.pointer (some ⟨w.heap.size,0,none⟩),.pointer (some ⟨w.heap.size + 1,0,none⟩),.pointer (some ⟨w.heap.size + 1 + 1,0,none⟩),.string x.1,undef,undef,.string a0,.func (.func 118) #[] #[.pointer (some ⟨w.heap.size + 4,0,none⟩),.pointer (some ⟨w.heap.size + 3,0,none⟩),.pointer (some ⟨w.heap.size + 5,0,none⟩)],.string x.1,undef,undef,undef,undef,undef,undef,undef,undef,undef,undef,undef,undef,undef,undef,undef,undef,undef,undef,undef,undef,undef,undef],defers:=[] }) ?assign ?body ?done ?stop
  case assign =>
   intro l x W K hK
   gi_wp2
   exact hK
  case body =>
   rintro l pre x W ⟨ps,v,s',h0,h1,h2,h3,h4,h5,h6,h7,h8⟩ hlen
   have HL:=Lib.hid hlen
   have HP:=Lib.hid h0
   have HR:=Lib.hid h4
   have HB:=Lib.hid h8
   have B1:=Lib.hid h1
   have B2:=Lib.hid h2
   have B3:=Lib.hid h3
   have B5:=Lib.hid h5
   have B6:=Lib.hid h6
   have B7:=Lib.hid h7
   have c1:=h1.cell
   have f1:=h1.frozen
   have c2:=h2.cell
   have f2:=h2.frozen
   clear hlen h0 h1 h2 h3 h4 h5 h6 h7 h8 b3 b4 b5 hI0 hBp
   obtain ⟨x,hxs⟩:=x
   dsimp only at *
   by_cases hx : x.size < 2
   ·have hpx : propOf x = none:=by unfold propOf;rw [if_pos hx]
    have HX:=Lib.hid hpx
    clear hpx
    gi_wp2
    exact ⟨(KeepsOthers.setCell _ _ _).trans (KeepsOthers.setCell _ _ _),rfl,by rw [texts_snoc,propsOf_snoc,HP.out];simp [HX.out],(B1.out.set _).other (by omega) _,(B2.out.other (by omega) _).set _,(HB.out.setCell (p:=⟨w.heap.size,0,none⟩) (Nat.le_refl _) _).setCell (p:=⟨w.heap.size + 1,0,none⟩) (by simp) _⟩
   ·obtain ⟨num,hnum⟩ : ∃ num,num = numOf (x.extract 1 x.size).data.toList:=⟨_,rfl⟩
    have hn:=stim_number.calls (x.extract 1 x.size) num.1 num.2 W (GV_below HG.out HB.out) (by unfold stim_number.f;rw [if_pos (by simp;omega),← hnum])
    have HN:=Lib.hid hn
    have HE:=Lib.hid hnum
    clear hn hnum
    gi_wp2
    refine ⟨trivial,?_⟩
    refine (CallsIn.inRound l (callsIn_wide.2 HN.out)).mono ?_
    rintro e W1 ⟨rfl,hb⟩
    have k1 : Boxed W1 w.heap.size 22 (.slice none 0 0):=(hb.block _ B1.out.lt).trans B1.out
    have k2 : Boxed W1 (w.heap.size + 1) 4 (.bool false):=(hb.block _ B2.out.lt).trans B2.out
    have k3 : Boxed W1 (w.heap.size + 2) 22 v:=(hb.block _ B3.out.lt).trans B3.out
    have k5 : Boxed W1 (w.heap.size + 3) 9 s':=(hb.block _ B5.out.lt).trans B5.out
    have k6 : Boxed W1 (w.heap.size + 4) 9 (.string ⟨#[32]⟩):=(hb.block _ B6.out.lt).trans B6.out
    have k7 : Boxed W1 (w.heap.size + 5) 3 (.int .i64 0):=(hb.block _ B7.out.lt).trans B7.out
    have kr:=Kd.R_below HR.out hb
    have hB1:=HB.out.trans (hb.mono HB.out.size)
    have hK : KeepsOthers W W1:=⟨hb.size,fun r o hr _ => (hb.block r (Array.getElem?_eq_some_iff.1 hr).1).trans hr⟩
    have hKp : KpS (w.heap.size + 3) (w.heap.size + 4) (w.heap.size + 5) W W1:=⟨hb.size,hb.block _ B5.out.lt,hb.block _ B6.out.lt,hb.block _ B7.out.lt⟩
    have c1:=k1.cell
    have f1:=k1.frozen
    have c2:=k2.cell
    have f2:=k2.frozen
    have K1:=Lib.hid k1
    have K2:=Lib.hid k2
    have K3:=Lib.hid k3
    have K5:=Lib.hid k5
    have K6:=Lib.hid k6
    have K7:=Lib.hid k7
    have KR:=Lib.hid kr
    have HB1:=Lib.hid hB1
    have HK:=Lib.hid hK
    have HKp:=Lib.hid hKp
    clear hb k1 k2 k3 k5 k6 k7 kr hB1 hK hKp B1 B2 B3 B5 B6 B7 HR HN
    obtain ⟨nv,nb⟩:=num
    dsimp only at *
    cases nb with
    |false =>
     have hpx : propOf x = none:=by unfold propOf;rw [if_neg hx,← HE.out];rfl
     have HX:=Lib.hid hpx
     clear hpx
     gi_wp2
     exact ⟨HK.out.trans ((KeepsOthers.setCell _ _ _).trans (KeepsOthers.setCell _ _ _)),rfl,by rw [texts_snoc,propsOf_snoc,HP.out];simp [HX.out],(K1.out.set _).other (by omega) _,(K2.out.other (by omega) _).set _,(HB1.out.setCell (p:=⟨w.heap.size,0,none⟩) (Nat.le_refl _) _).setCell (p:=⟨w.heap.size + 1,0,none⟩) (by simp) _⟩
    |true =>
     have hpx : propOf x = some ⟨bt x 0,nv⟩:=by unfold propOf;rw [if_neg hx,← HE.out];rfl
     have HX:=Lib.hid hpx
     have hx0 : 0 < x.size:=by omega
     have hlp : ps.length < 4294967300:=by
      have:=propsOf_len _ _ HP.out
      have h2:=HL.out
      have h3:=fragsB_len a0
      have h4:=HS.out
      simp [texts] at this
      omega
     have HLP:=Lib.hid hlp
     clear hpx hlp
     gi_wp2
     have hS : W1.drew.cell? ⟨w.heap.size + 1 + 1,0,none⟩ = some v:=K3.out.cell
     refine startIn_ (m:=8) (S:=fun w' => w'.cell? ⟨w.heap.size + 1 + 1,0,none⟩ = some v) (ds:=[7]) #[false,false,false,false,false,false,false,false] (by kernel_rfl) rfl rfl (by kernel_rfl) (fun ⟨_,_,hq⟩ => hq) hS (fun hHeld => ?_)
     refine pure_ (i:=1) (N:=some 23) (v:=?_) (a':=?_) #[false,true,false,false,false,false,false,false] rfl rfl (by kernel_rfl) (fun _ _ _ h => h) (Or.inl ⟨by rfl,?_⟩) ?_ ?_
     rotate_left
     ·intro w'
      go_simp
      with_reducible rfl
     rotate_left
     ·simp only [Act.put,List.setIfInBounds_toArray,List.set_cons_zero,List.set_cons_succ]
      rfl
     refine pure_ (i:=2) (N:=some 24) (v:=?_) (a':=?_) #[false,true,true,false,false,false,false,false] rfl rfl (by kernel_rfl) (fun _ _ _ h => h) (Or.inl ⟨by rfl,?_⟩) ?_ ?_
     rotate_left
     ·intro w'
      go_simp
      with_reducible rfl
     rotate_left
     ·simp only [Act.put,List.setIfInBounds_toArray,List.set_cons_zero,List.set_cons_succ]
      rfl
     refine pure_ (i:=3) (N:=some 25) (v:=?_) (a':=?_) #[false,true,true,true,false,false,false,false] rfl rfl (by kernel_rfl) (fun _ _ _ h => h) (Or.inl ⟨by rfl,?_⟩) ?_ ?_
     rotate_left
     ·intro w'
      go_simp
      with_reducible rfl
     rotate_left
     ·simp only [Act.put,List.setIfInBounds_toArray,List.set_cons_zero,List.set_cons_succ]
      rfl
     refine pure_ (i:=4) (N:=some 26) (v:=?_) (a':=?_) #[false,true,true,true,true,false,false,false] rfl rfl (by kernel_rfl) (fun _ _ _ h => h) (Or.inl ⟨by rfl,?_⟩) ?_ ?_
     rotate_left
     ·intro w'
      go_simp
      with_reducible rfl
     rotate_left
     ·simp only [Act.put,List.setIfInBounds_toArray,List.set_cons_zero,List.set_cons_succ]
      rfl
     refine take_ (i:=0) (N:=some 22) (v:=?_) (a':=?_) #[true,true,true,true,true,false,false,false] rfl rfl (by kernel_rfl) (fun _ _ _ h => h) (Or.inl ⟨by rfl,?_⟩) hHeld ?_ ?_
     rotate_left
     ·intro w' s0
      go_simp
      with_reducible rfl
     rotate_left
     ·simp only [Act.put,List.setIfInBounds_toArray,List.set_cons_zero,List.set_cons_succ]
      rfl
     refine one_ (i:=5) (N:=some 27) #[true,true,true,true,true,true,false,false] rfl rfl (by kernel_rfl) (by decide) (fun K hK => ?_)
     refine value_ (v:=.slice (some ⟨W1.drew.heap.size,0,none⟩) 1 1) (w1:=W1.drew.alloc (.cells #[.int .u8 ((x[0]'hx0).toNat : Int),.int .i64 nv] 83)) rfl rfl ?_ ?_
     ·go_simp
     refine hK.out _ _ (K3.out.alloc _).cell (fun hHeld2 => ?_)
     clear hK K
     refine norm_ (a':=?_) ?_ ?_
     rotate_left
     ·show Act.put _ (some 27) _ = _
      simp only [Act.put,List.setIfInBounds_toArray,List.set_cons_zero,List.set_cons_succ]
      rfl
     refine one_ (i:=6) (N:=some 28) #[true,true,true,true,true,true,true,false] rfl rfl (by kernel_rfl) (by decide) (fun K hK => ?_)
     refine Kd.R_append_step k83 (w0:=w) (W:=W1.drew) w.heap.size (by rfl) (.tmp 22) (.tmp 27) 22 83 (.agg #[.int .u8 0,.int .i64 0]) 16 rfl Tryd.underlying22 (by kernel_rfl) rfl (by decide) (by omega) v ps (⟨((x[0]'hx0).toNat : Int),nv⟩ : S83) [.int .u8 ((x[0]'hx0).toNat : Int),.int .i64 nv] (fun _ => True) (fun _ => False) rfl rfl (k83_mkM _ _ _ (⟨((x[0]'hx0).toNat : Int),nv⟩ : S83)) (fun _ h => h.elim) (fun _ _ => trivial) (Kd.R_drew KR.out) (below_drew HB1.out) HB1.out.size (by have:=HLP.out;omega) ?_
     intro v1 w1 hr1 hb1 hg1 hat1
     have q1 : Boxed w1 w.heap.size 22 (.slice none 0 0):=Boxed.kept (W:=W1.drew) K1.out hg1 (Kd.R_ne KR.out (boxed_at K1.out) (by decide))
     have q2 : Boxed w1 (w.heap.size + 1) 4 (.bool false):=Boxed.kept (W:=W1.drew) K2.out hg1 (Kd.R_ne KR.out (boxed_at K2.out) (by decide))
     have q3 : Boxed w1 (w.heap.size + 2) 22 v:=Boxed.kept (W:=W1.drew) K3.out hg1 (Kd.R_ne KR.out (boxed_at K3.out) (by decide))
     have q5 : Boxed w1 (w.heap.size + 3) 9 s':=Boxed.kept (W:=W1.drew) K5.out hg1 (Kd.R_ne KR.out (boxed_at K5.out) (by decide))
     have q6 : Boxed w1 (w.heap.size + 4) 9 (.string ⟨#[32]⟩):=Boxed.kept (W:=W1.drew) K6.out hg1 (Kd.R_ne KR.out (boxed_at K6.out) (by decide))
     have q7 : Boxed w1 (w.heap.size + 5) 3 (.int .i64 0):=Boxed.kept (W:=W1.drew) K7.out hg1 (Kd.R_ne KR.out (boxed_at K7.out) (by decide))
     refine hK.out _ _ q3.cell (fun hHeld3 => ?_)
     clear hK K
     obtain ⟨A1,n1,rfl⟩:=Kd.R_slice hr1
     refine norm_ (a':=?_) ?_ ?_
     rotate_left
     ·show Act.put _ (some 28) _ = _
      simp only [Act.put,List.setIfInBounds_toArray,List.set_cons_zero,List.set_cons_succ]
      rfl
     refine last_ (i:=7) (N:=none) #[true,true,true,true,true,true,true,true] rfl rfl (by kernel_rfl) (by decide) (fun K hK => ?_)
     have e3 : w1.cell? ⟨w.heap.size + 1 + 1,0,none⟩ = some v:=q3.cell
     have g3 : w1.frozen? ⟨w.heap.size + 1 + 1,0,none⟩ = false:=q3.frozen
     refine skip_ (w1:=w1.setCell ⟨w.heap.size + 1 + 1,0,none⟩ (.slice A1 (ps ++ [(⟨((x[0]'hx0).toNat : Int),nv⟩ : S83)]).length n1)) rfl rfl ?_ ?_
     ·go_simp
     refine hK.out _ _ ?_
     clear hK K
     refine done_ (by kernel_rfl) ?_
     have hbt : bt x 0 = ((x[0]'hx0).toNat : Int):=(bt_at x 0 hx0).symm
     have hko : KeepsOthers W1 w1:=⟨hg1.size,fun r o hr hc => (hg1.block r (Array.getElem?_eq_some_iff.1 hr).1 (fun he => by
      obtain ⟨cells,hcl⟩:=Kd.R_typed KR.out r he.symm
      rw [hcl] at hr
      injection hr with hr
      subst hr
      cases hc)).trans hr⟩
     exact ⟨(HK.out.trans hko).trans (KeepsOthers.setCell _ _ _),
      ⟨by simp only [World.size_setCell];exact Nat.le_trans HKp.out.1 hg1.size,(boxed_at (q5.other (B':=w.heap.size + 2) (by omega) _)).trans ((boxed_at K5.out).symm.trans HKp.out.2.1),(boxed_at (q6.other (B':=w.heap.size + 2) (by omega) _)).trans ((boxed_at K6.out).symm.trans HKp.out.2.2.1),(boxed_at (q7.other (B':=w.heap.size + 2) (by omega) _)).trans ((boxed_at K7.out).symm.trans HKp.out.2.2.2)⟩,
      _,_,s',by rw [texts_snoc,propsOf_snoc,HP.out];simp only [Option.bind_some,HX.out,hbt],q1.other (B':=w.heap.size + 2) (by omega) _,q2.other (B':=w.heap.size + 2) (by omega) _,q3.set _,Kd.R_set hr1 (boxed_at q3) (by decide) 0 _,q5.other (B':=w.heap.size + 2) (by omega) _,q6.other (B':=w.heap.size + 2) (by omega) _,q7.other (B':=w.heap.size + 2) (by omega) _,hb1.setCell (p:=⟨w.heap.size + 2,0,none⟩) (by simp) _⟩
  case done =>
   rintro D xs W hD hxs ⟨ps,v,s',h0,h1,h2,h3,h4,h5,h6,h7,h8⟩ hDK
   rw [hxs] at h0
   obtain ⟨A,c,rfl⟩:=Kd.R_slice h4
   obtain ⟨_,hc,hC⟩:=Kd.R_reads' h4
   have hH:=HH.out
   rw [h0] at hH
   dsimp only at hH
   obtain ⟨e,he,hee⟩:=Option.bind_eq_some_iff.1 hH
   injection hee with hee
   injection hee with e1 e2
   subst e1
   subst e2
   gi_wp2
   refine wpIn_wide.2 ?_
   have hS : W.drew.cell? ⟨w.heap.size + 1 + 1,0,none⟩ = some (.slice A ps.length c):=h3.cell
   refine wp_normal ?_
   refine start_ (n:=6) (S:=fun w' => w'.cell? ⟨w.heap.size + 1 + 1,0,none⟩ = some (.slice A ps.length c)) (ds:=[4,5]) #[false,false,false,false,false,false] (by kernel_rfl) rfl rfl hS (fun hHeld => ?_)
   refine take_ (i:=0) (N:=some 29) (v:=?_) (a':=?_) #[true,false,false,false,false,false] rfl rfl (by kernel_rfl) (fun _ _ _ h => by cases h.1) (Or.inl ⟨by rfl,?_⟩) hHeld ?_ ?_
   rotate_left
   ·intro w' s0
    go_simp
    with_reducible rfl
   rotate_left
   ·simp only [Act.put,List.setIfInBounds_toArray,List.set_cons_zero,List.set_cons_succ]
    rfl
   refine take_ (i:=1) (N:=some 30) (v:=?_) (a':=?_) #[true,true,false,false,false,false] rfl rfl (by kernel_rfl) (fun _ _ _ h => by cases h.1) (Or.inl ⟨by rfl,?_⟩) hHeld ?_ ?_
   rotate_left
   ·intro w' s0
    go_simp
    with_reducible rfl
   rotate_left
   ·simp only [Act.put,List.setIfInBounds_toArray,List.set_cons_zero,List.set_cons_succ]
    rfl
   refine one_ (i:=2) (N:=some 31) #[true,true,true,false,false,false] rfl rfl (by kernel_rfl) (by decide) (fun K hK => ?_)
   refine goes_ Tryd.func41 (by kernel_rfl) rfl #[.slice A ps.length c] (by rfl) rfl rfl (by (try simp only [List.map_toArray,List.map_cons,List.map_nil]);first|done|rfl) ?_
   refine (stim_props.calls A c ps e W.drew hC hc he).mono ?_
   rintro _ w1 ⟨rfl,hb⟩
   refine ⟨_,rfl,?_⟩
   have q1 : Boxed w1 w.heap.size 22 (.slice none 0 0):=(hb.block _ h1.lt).trans h1
   have q2 : Boxed w1 (w.heap.size + 1) 4 (.bool false):=(hb.block _ h2.lt).trans h2
   have q3 : Boxed w1 (w.heap.size + 2) 22 (.slice A ps.length c):=(hb.block _ h3.lt).trans h3
   have hD1 : w1.heap[D]? = some (.deferred (some [])):=(hb.block _ (Array.getElem?_eq_some_iff.1 hDK).1).trans hDK
   have kr : Kd.R k83 83 w1 w.heap.size (fun _ => True) (.slice A ps.length c) ps:=Kd.R_below (Kd.R_drew h4) hb
   have hb1 : Below w.heap.size w w1:=(below_drew h8).trans (hb.mono h8.size)
   refine hK.out _ _ q3.cell (fun hHeld2 => ?_)
   clear hK K
   refine norm_ (a':=?_) ?_ ?_
   rotate_left
   ·show Act.put _ (some 31) _ = _
    simp only [Act.put,List.setIfInBounds_toArray,List.set_cons_zero,List.set_cons_succ]
    rfl
   refine pure_ (i:=3) (N:=some 32) (v:=?_) (a':=?_) #[true,true,true,true,false,false] rfl rfl (by kernel_rfl) (fun _ _ _ h => by cases h.1) (Or.inl ⟨by rfl,?_⟩) ?_ ?_
   rotate_left
   ·intro w'
    go_simp
    with_reducible rfl
   rotate_left
   ·simp only [Act.put,List.setIfInBounds_toArray,List.set_cons_zero,List.set_cons_succ]
    rfl
   have e1:=q1.cell
   have g1:=q1.frozen
   refine last_ (i:=4) (N:=none) #[true,true,true,true,true,false] rfl rfl (by kernel_rfl) (by decide) (fun K hK => ?_)
   refine skip_ (w1:=w1.setCell ⟨w.heap.size,0,none⟩ (.slice A ps.length c)) rfl rfl ?_ ?_
   ·go_simp
   refine hK.out _ _ ?_
   clear hK K
   have q1':=q1.set (.slice A ps.length c)
   have q2':=q2.other (B':=w.heap.size) (by omega) (.slice A ps.length c)
   have e2:=q2'.cell
   have g2:=q2'.frozen
   refine last_ (i:=5) (N:=none) #[true,true,true,true,true,true] rfl rfl (by kernel_rfl) (by decide) (fun K hK => ?_)
   refine skip_ (w1:=(w1.setCell ⟨w.heap.size,0,none⟩ (.slice A ps.length c)).setCell ⟨w.heap.size + 1,0,none⟩ (.bool (e == 0))) rfl rfl ?_ ?_
   ·go_simp
   refine hK.out _ _ ?_
   clear hK K
   refine done_ (by kernel_rfl) ⟨rfl,?_⟩
   rename_i hKK _
   refine hKK _ _ ?_
   gi_wp2
   exact properties_ret rfl rfl rfl (D:=D) (ds:=[]) (((KeepsOthers.setCell _ _ _).trans (KeepsOthers.setCell _ _ _)).same D _ hD1 rfl) rfl (by omega) (q1'.other (by omega) _) (q2'.set _) (Kd.R_set (Kd.R_set kr (boxed_at q1) (by decide) 0 _) (boxed_at q2') (by decide) 0 _) ((hb1.setCell (p:=⟨w.heap.size,0,none⟩) (Nat.le_refl _) _).setCell (p:=⟨w.heap.size + 1,0,none⟩) (by simp) _)
  case stop =>
   rintro D c pre W hD hpre ⟨rfl,hnone,h1,h2,h8⟩ hDK
   gi_wp2
   have hnn:=propsOf_prefix hnone hpre
   have hH:=HH.out
   rw [hnn] at hH
   injection hH with hH
   injection hH with e1 e2
   subst e1
   subst e2
   exact properties_ret rfl rfl rfl hDK rfl (by omega) h1 h2 (Kd.R_nil _ _ _ _ _) h8
 ·cases h
end Go.Proofs.YtojepjkpnponoaaDoor.Stim

