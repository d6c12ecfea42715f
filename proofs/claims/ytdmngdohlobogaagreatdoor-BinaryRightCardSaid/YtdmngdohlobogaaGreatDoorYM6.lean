import Derived.Test.YtdmngdohlobogaaGreatDoorYM4
import Derived.Test.YtdmngdohlobogaaGreatDoorYM5
import Derived.RangeFuncCalls
import Derived.OrdersIn
import Derived.Test.YtdmngdohlobogaaGreatDoorYWords
section
namespace Go.Proofs.YtdmngdohlobogaaGreatDoor.Asc
open Go Go.RowKit Go.Shelf Go.Proofs.YtdmngdohlobogaaGreatDoorW.PrintWords Go.Proofs.YtdmngdohlobogaaGreatDoorW.PrintLast Go.Proofs.YtdmngdohlobogaaGreatDoorW.PrintMore
open Go.Proofs.YtdmngdohlobogaaGreatDoor.Stim (fragsB texts texts_snoc Wd KpS splitSeq_stops splitSeq_made)
attribute [local go_sem] Oper.semAt_some
set_option linter.unusedVariables false
set_option linter.unusedSimpArgs false
theorem frags_len : ∀ l : List UInt8,(Stim.frags l).length ≤ l.length + 1
 |[] => by simp [Stim.frags]
 |c :: l => by
  have ih:=frags_len l
  unfold Stim.frags
  split
  ·simp;omega
  ·split
   ·rename_i f fs he
    rw [he] at ih
    simp at ih ⊢
    omega
   ·simp
theorem fragsB_len (s : ByteArray) : (fragsB s).length ≤ s.size + 1:=by
 have:=frags_len s.data.toList
 rw [Stim.size_list] at this
 simpa [fragsB] using this
theorem info3r : ∃ i,Tryz.prog.info? 3 = some i ∧ i.zero = some (.int .i64 0) ∧ i.size = 1 ∧ i.bytes = 8:=by
 have h : (Tryz.prog.info? 3).map (fun i => (i.zero,i.size,i.bytes)) = some (some (.int .i64 0),1,8):=by kernel_rfl
 obtain ⟨i,hi,he⟩:=Option.map_eq_some_iff.1 h
 injection he with h1 he
 injection he with h2 h3
 exact ⟨i,hi,h1,h2,h3⟩
theorem one_new {W : World} {B : Nat} {x : Value} (h : W.cell? ⟨B,0,none⟩ = some x) : ∀ j u,[x][j]? = some u → W.cell? ((⟨B,0,none⟩ : Addr).add j) = some u:=by
 intro j u hu
 cases j with
 |zero =>
  injection hu with hu
  subst hu
  exact h
 |succ j => simp at hu
theorem one_cell (n : Int) : ∀ u ∈ [Value.int .i64 n],u.oneCell' = true:=by
 intro u hu
 rw [List.mem_singleton.1 hu]
 rfl
def PI (w : World) (pre : List Wd) (W : World) : Prop :=
 ∃ ps v s',numsA (texts pre) = some ps ∧ Boxed W w.heap.size 22 (.slice none 0 0) ∧ Boxed W (w.heap.size + 1) 4 (.bool false) ∧ Boxed W (w.heap.size + 2) 22 v ∧ Kd.R (Kd.int .i64) 3 W (w.heap.size + 6) (fun _ => True) v ps ∧
  Boxed W (w.heap.size + 3) 9 s' ∧ Boxed W (w.heap.size + 4) 9 (.string ⟨#[32]⟩) ∧ Boxed W (w.heap.size + 5) 3 (.int .i64 0) ∧ Below w.heap.size w W
def PX (w : World) (c : Code) (pre : List Wd) (W : World) : Prop :=
 c = .ret ∧ numsA (texts pre) = none ∧ Boxed W w.heap.size 22 (.slice none 0 0) ∧ Boxed W (w.heap.size + 1) 4 (.bool false) ∧ Below w.heap.size w W
theorem boxed_at {W : World} {B : Nat} {t : TypeId} {v : Value} (h : Boxed W B t v) : W.heap[B]? = some (.cells #[v] t (0,0)):=h
theorem row_ne {W : World} {base B : Nat} {v : Value} {ps : List Int} (h : Kd.R (Kd.int .i64) 3 W base (fun _ => True) v ps) (hB : B < base) : some B ≠ v.ownBlock:=fun e => by have:=Kd.R_base h B e.symm;omega
theorem PI_own (w : World) (B : Nat) (hB : w.heap.size + 6 ≤ B) : OwnFrom B (PI w):=by
 rintro pre W W' row ⟨ps,v,s',h0,h1,h2,h3,h4,h5,h6,h7,h8⟩ hg hr
 have hne : ∀ b,b < B → some b ≠ row:=fun b hb e => by have:=(hr b e.symm).1;omega
 refine ⟨ps,v,s',h0,h1.kept hg (hne _ (by omega)),h2.kept hg (hne _ (by omega)),h3.kept hg (hne _ (by omega)),?_,h5.kept hg (hne _ (by omega)),h6.kept hg (hne _ (by omega)),h7.kept hg (hne _ (by omega)),h8.grown hg h8.size (fun k e => by have:=(hr k e).1;omega)⟩
 refine Kd.R_mono (Kd.R_grown (Kd.R_bound h4) hg ?_) (fun _ _ => trivial)
 rintro k ⟨_,_,_,q,_,cells,hc⟩ he
 obtain ⟨_,o,ho,hoc⟩:=hr k he.symm
 rw [hc] at ho
 injection ho with ho
 subst ho
 cases hoc
theorem PX_own (w : World) (c : Code) (B : Nat) (hB : w.heap.size + 6 ≤ B) : OwnFrom B (PX w c):=by
 rintro pre W W' row ⟨h0,h1,h2,h3,h4⟩ hg hr
 have hne : ∀ b,b < B → some b ≠ row:=fun b hb e => by have:=(hr b e.symm).1;omega
 exact ⟨h0,h1,h2.kept hg (hne _ (by omega)),h3.kept hg (hne _ (by omega)),h4.grown hg h4.size (fun k e => by have:=(hr k e).1;omega)⟩
theorem PI_set (w : World) (pre : List Wd) (W : World) (u : Value) (h : PI w pre W) : PI w pre (W.setCell ⟨w.heap.size + 3,0,none⟩ u):=by
 obtain ⟨ps,v,s',h0,h1,h2,h3,h4,h5,h6,h7,h8⟩:=h
 exact ⟨ps,v,u,h0,h1.other (by omega) _,h2.other (by omega) _,h3.other (by omega) _,Kd.R_set h4 (boxed_at h5) (by decide) 0 u,h5.set _,h6.other (by omega) _,h7.other (by omega) _,h8.setCell (p:=⟨w.heap.size + 3,0,none⟩) (by simp) _⟩
theorem numbers_ret {D : Nat} {a : Act} {w W : World} {v0 : Value} {r1 : List Int} {r2 : Bool} {ds : List Deferred} (hd : a.defers = [{ target:=.collected D,args:=#[] }]) (h2 : a.tmps.getD 2 undef = .pointer (some ⟨w.heap.size,0,none⟩)) (h3 : a.tmps.getD 3 undef = .pointer (some ⟨w.heap.size + 1,0,none⟩))
  (hDK : W.heap[D]? = some (.deferred (some ds))) (hds : ds = []) (hD : w.heap.size ≤ D) (k1 : Boxed W w.heap.size 22 v0) (k2 : Boxed W (w.heap.size + 1) 4 (.bool r2)) (hr : Kd.R (Kd.int .i64) 3 W w.heap.size (fun _ => True) v0 r1) (hb : Below w.heap.size w W) :
  bodyPostM Fence.wide 10 Tryz.prog Tryz.f52 (fun e w' => ∃ v0_ : Value,e = .returned (.tuple #[v0_,.bool r2]) ∧ Kd.R (Kd.int .i64) 3 w' w.heap.size (fun _ => True) v0_ r1 ∧ Below w.heap.size w w') .ret a W:=by
 subst hds
 show LeavesInM _ _ _ _ _ _ a.defers _ _
 rw [hd]
 refine ⟨by simp,.inl ⟨_,_,rfl,run_takeDeferred hDK,?_⟩⟩
 have hg:=grownBy_putObj' W D (.deferred none)
 have hne : ∀ b cs t f,W.heap[b]? = some (.cells cs t f) → some b ≠ some D:=by
  rintro b cs t f hbk he
  injection he with he
  subst he
  rw [hbk] at hDK
  cases hDK
 have c1 : (W.putObj D (.deferred none)).cell? ⟨w.heap.size,0,none⟩ = some v0:=(k1.kept hg (hne _ _ _ _ (boxed_at k1))).cell
 have c2 : (W.putObj D (.deferred none)).cell? ⟨w.heap.size + 1,0,none⟩ = some (.bool r2):=(k2.kept hg (hne _ _ _ _ (boxed_at k2))).cell
 refine ⟨.tuple #[v0,.bool r2],?_,v0,rfl,Kd.R_mono (Kd.R_grown (Kd.R_bound hr) hg ?_) (fun _ _ => trivial),hb.grown hg hb.size (fun k e => by injection e with e;omega)⟩
 ·have h2' : (a.tmps[2]?).getD undef = .pointer (some ⟨w.heap.size,0,none⟩):=by simpa using h2
  have h3' : (a.tmps[3]?).getD undef = .pointer (some ⟨w.heap.size + 1,0,none⟩):=by simpa using h3
  simp [results,Tryz.f52,go_sem,h2',h3',c1,c2]
 ·rintro k ⟨_,_,_,q,_,cells,hc⟩
  exact hne _ _ _ _ hc
def numsR (s : ByteArray) : List Int × Bool:=match numbersF s with
 |none => ([],false)
 |some ns => (ns,true)
set_option maxRecDepth 100000 in
set_option maxHeartbeats 2000000 in
theorem numbers_calls (a0 : ByteArray) (w : World) (hG : GV w) (hs : a0.size ≤ 1048576) (r1 : List Int) (r2 : Bool) (h : numsR a0 = (r1,r2)) :
  Calls Tryz.prog 52 #[.string a0] w fun e w' => ∃ v0_ : Value,e = .returned (.tuple #[v0_,.bool r2]) ∧ Kd.R (Kd.int .i64) 3 w' w.heap.size (fun _ => True) v0_ r1 ∧ Below w.heap.size w w':=by
 unfold numsR numbersF at h
 have HH:=Lib.hid h
 have HS:=Lib.hid hs
 have HG:=Lib.hid hG
 clear h hs hG
 refine (callsIn_wide (n:=10)).1 ?_
 refine callsIn_of_wp_marks Tryz.func52 rfl trivial ?_ rfl
 simp only [Tryz.ntmps52,List.size_toArray,List.length_cons,List.length_nil,Nat.reduceAdd,Nat.reduceSub,Array.replicate_succ,Array.replicate_zero,List.push_toArray,List.append_toArray,List.nil_append,List.cons_append]
 gi_wp2
 have hm : Calls Tryz.prog 78 #[.string a0,.string ⟨#[32]⟩] (((w.alloc (.cells #[.slice none 0 0] 22)).alloc (.cells #[.bool false] 4)).alloc (.cells #[.slice none 0 0] 22)) fun e w' =>
   e = .returned (.func (.func 124) #[] #[.pointer (some ⟨w.heap.size + 4,0,none⟩),.pointer (some ⟨w.heap.size + 3,0,none⟩),.pointer (some ⟨w.heap.size + 5,0,none⟩)]) ∧ PI w [] w' ∧ w'.heap.size = w.heap.size + 6 ∧ Boxed w' (w.heap.size + 3) 9 (.string a0) ∧ Boxed w' (w.heap.size + 4) 9 (.string ⟨#[32]⟩) ∧ Boxed w' (w.heap.size + 5) 3 (.int .i64 0):=by
  refine (splitSeq_made a0 ⟨#[32]⟩ _).mono ?_
  rintro e w' ⟨rfl,rfl⟩
  have q0:=Boxed.new w 22 (.slice none 0 0)
  have q1:=Boxed.new (w.alloc (.cells #[.slice none 0 0] 22)) 4 (.bool false)
  have q2:=Boxed.new ((w.alloc (.cells #[.slice none 0 0] 22)).alloc (.cells #[.bool false] 4)) 22 (.slice none 0 0)
  have q3:=Boxed.new (((w.alloc (.cells #[.slice none 0 0] 22)).alloc (.cells #[.bool false] 4)).alloc (.cells #[.slice none 0 0] 22)) 9 (.string a0)
  have q4:=Boxed.new ((((w.alloc (.cells #[.slice none 0 0] 22)).alloc (.cells #[.bool false] 4)).alloc (.cells #[.slice none 0 0] 22)).alloc (.cells #[.string a0] 9)) 9 (.string ⟨#[32]⟩)
  have q5:=Boxed.new (((((w.alloc (.cells #[.slice none 0 0] 22)).alloc (.cells #[.bool false] 4)).alloc (.cells #[.slice none 0 0] 22)).alloc (.cells #[.string a0] 9)).alloc (.cells #[.string ⟨#[32]⟩] 9)) 3 (.int .i64 0)
  simp only [World.size_alloc,Nat.add_assoc,Nat.reduceAdd] at q0 q1 q2 q3 q4 q5
  have bl : Below w.heap.size w ((((((w.alloc (.cells #[.slice none 0 0] 22)).alloc (.cells #[.bool false] 4)).alloc (.cells #[.slice none 0 0] 22)).alloc (.cells #[.string a0] 9)).alloc (.cells #[.string ⟨#[32]⟩] 9)).alloc (.cells #[.int .i64 0] 3)):=eA_ (eA_ (eA_ (eA_ (eA_ (eA_ (Below.refl _ _) _) _) _) _) _) _
  refine ⟨by simp only [World.size_alloc,Nat.add_assoc,Nat.reduceAdd],⟨[],.slice none 0 0,.string a0,rfl,((((q0.alloc _).alloc _).alloc _).alloc _).alloc _,(((q1.alloc _).alloc _).alloc _).alloc _,((q2.alloc _).alloc _).alloc _,Kd.R_nil _ _ _ _ _,(q3.alloc _).alloc _,q4.alloc _,q5,bl⟩,by simp only [World.size_alloc,Nat.add_assoc,Nat.reduceAdd],(q3.alloc _).alloc _,q4.alloc _,q5⟩
 refine ⟨trivial,?_⟩
 refine (callsIn_wide.2 hm).mono ?_
 rintro e W0 ⟨rfl,hI0,hsz,b3,b4,b5⟩
 clear hm
 gi_wp2
 have hBp : Below w.heap.size w W0:=by obtain ⟨_,_,_,_,_,_,_,_,_,_,_,hb⟩:=hI0;exact hb
 refine wpIn_rangeFunc_ownS rfl (by omega) (gf:=124) (lb:=#[.pointer (some ⟨w.heap.size + 4,0,none⟩),.pointer (some ⟨w.heap.size + 3,0,none⟩),.pointer (some ⟨w.heap.size + 5,0,none⟩)]) rfl trivial (enters_of Tryz.func124 (by kernel_rfl) rfl)
  (splitSeq_stops _ (by omega) a0 (by have:=HS.out;omega) (w.heap.size + 3) (w.heap.size + 4) (w.heap.size + 5) W0 b3 b4 b5 (by omega) (by omega)) KpS.t
  (fun W l o o' hl hW _ _ => by
   have hlt:=(Array.getElem?_eq_some_iff.1 hW).1
   have hg:=grownBy_putObj' W l o'
   exact ⟨hg.size,hg.block _ (by omega) (by simp;omega),hg.block _ (by omega) (by simp;omega),hg.block _ (by omega) (by simp;omega)⟩)
  (Below.refl _ _) (fun _ => rfl) (PI w) (PX w) (PI_own w _ (by omega)) (fun c => PX_own w c _ (by omega)) (by omega) (PI_set w) hI0
  (fun x => { tmps:=#[.string a0,undef,.pointer (some ⟨w.heap.size,0,none⟩),.pointer (some ⟨w.heap.size + 1,0,none⟩),.pointer (some ⟨w.heap.size + 1 + 1,0,none⟩),.string x.1,undef,undef,.string a0,.func (.func 124) #[] #[.pointer (some ⟨w.heap.size + 4,0,none⟩),.pointer (some ⟨w.heap.size + 3,0,none⟩),.pointer (some ⟨w.heap.size + 5,0,none⟩)],.string x.1,undef,undef,undef,undef,undef,undef,undef,undef,undef,undef,undef,undef],defers:=[] }) ?assign ?body ?done ?stop
 case assign =>
  intro l x W K hK
  gi_wp2
  exact hK
 case body =>
  rintro l pre x W ⟨ps,v,s',h0,h1,h2,h3,h4,h5,h6,h7,h8⟩ hlen
  have HL:=Lib.hid hlen
  have HP:=Lib.hid h0
  have HR:=Lib.hid h4
  have HB:=Lib.hid h8
  have B1:=Lib.hid h1
  have B2:=Lib.hid h2
  have B3:=Lib.hid h3
  have B5:=Lib.hid h5
  have B6:=Lib.hid h6
  have B7:=Lib.hid h7
  have c1:=h1.cell
  have f1:=h1.frozen
  have c2:=h2.cell
  have f2:=h2.frozen
  clear hlen h0 h1 h2 h3 h4 h5 h6 h7 h8 b3 b4 b5 hI0 hBp
  obtain ⟨x,hxs⟩:=x
  dsimp only at *
  obtain ⟨num,hnum⟩ : ∃ num,num = numA x:=⟨_,rfl⟩
  have hn:=number_calls x W (GV_below HG.out HB.out) (by omega)
  rw [← hnum] at hn
  have HN:=Lib.hid hn
  have HE:=Lib.hid hnum
  clear hn hnum
  gi_wp2
  refine ⟨trivial,?_⟩
  refine (CallsIn.inRound l (callsIn_wide.2 HN.out)).mono ?_
  rintro e W1 ⟨rfl,hb⟩
  have k1 : Boxed W1 w.heap.size 22 (.slice none 0 0):=(hb.block _ B1.out.lt).trans B1.out
  have k2 : Boxed W1 (w.heap.size + 1) 4 (.bool false):=(hb.block _ B2.out.lt).trans B2.out
  have k3 : Boxed W1 (w.heap.size + 2) 22 v:=(hb.block _ B3.out.lt).trans B3.out
  have k5 : Boxed W1 (w.heap.size + 3) 9 s':=(hb.block _ B5.out.lt).trans B5.out
  have k6 : Boxed W1 (w.heap.size + 4) 9 (.string ⟨#[32]⟩):=(hb.block _ B6.out.lt).trans B6.out
  have k7 : Boxed W1 (w.heap.size + 5) 3 (.int .i64 0):=(hb.block _ B7.out.lt).trans B7.out
  have kr:=Kd.R_below HR.out hb
  have hB1:=HB.out.trans (hb.mono HB.out.size)
  have hK : KeepsOthers W W1:=⟨hb.size,fun r o hr _ => (hb.block r (Array.getElem?_eq_some_iff.1 hr).1).trans hr⟩
  have hKp : KpS (w.heap.size + 3) (w.heap.size + 4) (w.heap.size + 5) W W1:=⟨hb.size,hb.block _ B5.out.lt,hb.block _ B6.out.lt,hb.block _ B7.out.lt⟩
  have c1:=k1.cell
  have f1:=k1.frozen
  have c2:=k2.cell
  have f2:=k2.frozen
  have c3 : W1.cell? ⟨w.heap.size + 1 + 1,0,none⟩ = some v:=k3.cell
  have f3 : W1.frozen? ⟨w.heap.size + 1 + 1,0,none⟩ = false:=k3.frozen
  have K1:=Lib.hid k1
  have K2:=Lib.hid k2
  have K3:=Lib.hid k3
  have K5:=Lib.hid k5
  have K6:=Lib.hid k6
  have K7:=Lib.hid k7
  have KR:=Lib.hid kr
  have HB1:=Lib.hid hB1
  have HK:=Lib.hid hK
  have HKp:=Lib.hid hKp
  clear hb k1 k2 k3 k5 k6 k7 kr hB1 hK hKp B1 B2 B3 B5 B6 B7 HR HN
  obtain ⟨nv,nb⟩:=num
  dsimp only at *
  cases nb with
  |false =>
   have hpx : numsA (texts (pre ++ [⟨x,hxs⟩])) = none:=by
    rw [texts_snoc,numsA_snoc,HP.out]
    show (if (numA x).2 = true then _ else _) = none
    rw [← HE.out]
    rfl
   have HX:=Lib.hid hpx
   clear hpx
   gi_wp2
   exact ⟨HK.out.trans ((KeepsOthers.setCell _ _ _).trans (KeepsOthers.setCell _ _ _)),rfl,HX.out,(K1.out.set _).other (by omega) _,(K2.out.other (by omega) _).set _,(HB1.out.setCell (p:=⟨w.heap.size,0,none⟩) (Nat.le_refl _) _).setCell (p:=⟨w.heap.size + 1,0,none⟩) (by simp) _⟩
  |true =>
   have hpx : numsA (texts (pre ++ [⟨x,hxs⟩])) = some (ps ++ [nv]):=by
    rw [texts_snoc,numsA_snoc,HP.out]
    show (if (numA x).2 = true then _ else _) = _
    rw [← HE.out]
    rfl
   have HX:=Lib.hid hpx
   have hlp : ps.length < 4294967300:=by
    have:=numsA_len _ _ HP.out
    have h2:=HL.out
    have h3:=fragsB_len a0
    have h4:=HS.out
    simp [texts] at this
    omega
   have HLP:=Lib.hid hlp
   clear hpx hlp
   obtain ⟨i3,hi3,z3,s3,y3⟩:=info3r
   have hown:=(Kd.own_of_R KR.out).alloc (.cells #[.int .i64 nv] 3)
   have hnew : (W1.alloc (.cells #[.int .i64 nv] 3)).cell? ⟨W1.heap.size,0,none⟩ = some (.int .i64 nv):=by go_simp
   have HO:=Lib.hid hown
   have HNW:=Lib.hid hnew
   clear hown hnew
   gi_wp2_with (gi_at_builtin;refine wpListIn_append_own _ rfl _ _ 22 rfl (w.heap.size + 6) 3 i3 (.int .i64 0) 1 8 Tryz.underlying22 hi3 z3 s3 y3 rfl (by decide) v ps.length (encs (Value.int .i64) ps) rfl HO.out ⟨W1.heap.size,0,none⟩ 1 1 [.int .i64 nv] rfl rfl (one_new HNW.out) (one_cell nv) (by unfold maxLen;have:=HLP.out;omega) (by have:=HLP.out;omega) (by have:=K7.out.lt;simp;omega) ?_;intro v1 w1 hown1 hg1 hnil1;have q3 : Boxed w1 (w.heap.size + 2) 22 v:=(K3.out.alloc _).kept hg1 (row_ne KR.out (by omega));have e3 : w1.cell? ⟨w.heap.size + 1 + 1,0,none⟩ = some v:=q3.cell;have g3 : w1.frozen? ⟨w.heap.size + 1 + 1,0,none⟩ = false:=q3.frozen;have hr1 : Kd.R (Kd.int .i64) 3 w1 (w.heap.size + 6) (fun _ => True) v1 (ps ++ [nv]):=Kd.R_of_own (by rw [List.length_append];simpa [encs] using hown1) (fun _ _ => trivial);obtain ⟨A1,n1,rfl⟩:=Kd.R_slice hr1;simp only [List.length_append,List.length_cons,List.length_nil,Nat.zero_add] at hr1;have Q3:=Lib.hid q3;have HR1:=Lib.hid hr1;have HG1:=Lib.hid hg1;clear q3 hr1 hown1 hg1 hnil1)
   have q1 : Boxed w1 w.heap.size 22 (.slice none 0 0):=(K1.out.alloc _).kept HG1.out (row_ne KR.out (by omega))
   have q2 : Boxed w1 (w.heap.size + 1) 4 (.bool false):=(K2.out.alloc _).kept HG1.out (row_ne KR.out (by omega))
   have q5 : Boxed w1 (w.heap.size + 3) 9 s':=(K5.out.alloc _).kept HG1.out (row_ne KR.out (by omega))
   have q6 : Boxed w1 (w.heap.size + 4) 9 (.string ⟨#[32]⟩):=(K6.out.alloc _).kept HG1.out (row_ne KR.out (by omega))
   have q7 : Boxed w1 (w.heap.size + 5) 3 (.int .i64 0):=(K7.out.alloc _).kept HG1.out (row_ne KR.out (by omega))
   have hb1 : Below w.heap.size w w1:=(eA_ HB1.out _).grown HG1.out (by have:=HB1.out.size;simp;omega) (fun k e => by have:=Kd.R_base KR.out k e;omega)
   have hko : KeepsOthers W1 w1:=⟨by have:=HG1.out.size;simp at this;omega,fun r o hr hc => (HG1.out.block r (by have:=(Array.getElem?_eq_some_iff.1 hr).1;simp;omega) (fun he => by
    obtain ⟨cells,hcl⟩:=Kd.R_typed KR.out r he.symm
    rw [hcl] at hr
    injection hr with hr
    subst hr
    cases hc)).trans ((Below.heap_alloc _ _ _ (Array.getElem?_eq_some_iff.1 hr).1).trans hr)⟩
   exact ⟨(HK.out.trans hko).trans (KeepsOthers.setCell _ _ _),
    ⟨by have:=HG1.out.size;have:=HKp.out.1;simp at *;omega,(boxed_at (q5.other (B':=w.heap.size + 2) (by omega) _)).trans ((boxed_at K5.out).symm.trans HKp.out.2.1),(boxed_at (q6.other (B':=w.heap.size + 2) (by omega) _)).trans ((boxed_at K6.out).symm.trans HKp.out.2.2.1),(boxed_at (q7.other (B':=w.heap.size + 2) (by omega) _)).trans ((boxed_at K7.out).symm.trans HKp.out.2.2.2)⟩,
    _,_,s',HX.out,q1.other (B':=w.heap.size + 2) (by omega) _,q2.other (B':=w.heap.size + 2) (by omega) _,Q3.out.set _,Kd.R_set HR1.out (boxed_at Q3.out) (by decide) 0 _,q5.other (B':=w.heap.size + 2) (by omega) _,q6.other (B':=w.heap.size + 2) (by omega) _,q7.other (B':=w.heap.size + 2) (by omega) _,hb1.setCell (p:=⟨w.heap.size + 2,0,none⟩) (by simp) _⟩
 case done =>
  rintro D xs W hD hxs ⟨ps,v,s',h0,h1,h2,h3,h4,h5,h6,h7,h8⟩ hDK
  rw [hxs] at h0
  obtain ⟨A,c,rfl⟩:=Kd.R_slice h4
  have hH:=HH.out
  rw [h0] at hH
  injection hH with e1 e2
  subst e1
  subst e2
  have c1:=h1.cell
  have f1:=h1.frozen
  have c2:=h2.cell
  have f2:=h2.frozen
  have c3 : W.cell? ⟨w.heap.size + 1 + 1,0,none⟩ = some (.slice A ps.length c):=h3.cell
  have H1:=Lib.hid h1
  have H2:=Lib.hid h2
  have H4:=Lib.hid h4
  have H8:=Lib.hid h8
  have HDK:=Lib.hid hDK
  clear h0 h1 h2 h3 h4 h5 h6 h7 h8 hDK hxs b3 b4 b5 hI0 hBp
  gi_wp2
  exact numbers_ret rfl rfl rfl (D:=D) (ds:=[]) (((KeepsOthers.setCell _ _ _).trans (KeepsOthers.setCell _ _ _)).same D _ HDK.out rfl) rfl (by omega) ((H1.out.set _).other (by omega) _) ((H2.out.other (by omega) _).set _) (Kd.R_lower (Kd.R_set (Kd.R_set H4.out (boxed_at H1.out) (by decide) 0 _) (boxed_at (H2.out.other (B':=w.heap.size) (by omega) _)) (by decide) 0 _) (by omega)) ((H8.out.setCell (p:=⟨w.heap.size,0,none⟩) (Nat.le_refl _) _).setCell (p:=⟨w.heap.size + 1,0,none⟩) (by simp) _)
 case stop =>
  rintro D c pre W hD hpre ⟨rfl,hnone,h1,h2,h8⟩ hDK
  gi_wp2
  have hnn:=numsA_prefix hnone hpre
  have hH:=HH.out
  rw [hnn] at hH
  injection hH with e1 e2
  subst e1
  subst e2
  exact numbers_ret rfl rfl rfl hDK rfl (by omega) h1 h2 (Kd.R_nil _ _ _ _ _) h8
end Go.Proofs.YtdmngdohlobogaaGreatDoor.Asc
end
section
namespace Go.Proofs.YtdmngdohlobogaaGreatDoor.Asc
open Go Go.RowKit Go.Proofs.YtdmngdohlobogaaGreatDoorW.PrintWords Go.Proofs.YtdmngdohlobogaaGreatDoorW.PrintLast Go.Proofs.YtdmngdohlobogaaGreatDoorW.PrintMore
set_option linter.unusedVariables false
set_option linter.unusedSimpArgs false
theorem KR.base {w0 w W : World} {R : Nat} (h : KR w W R) (hB : Below w0.heap.size w0 w) (hR : w0.heap.size ≤ R) : Below w0.heap.size w0 W:=hB.trans (h.be.mono hR)
theorem lineF_size {s l : ByteArray} {p q : Nat} (hp : p ≤ s.size) (h : lineF s p = some (l,q)) : l.size ≤ s.size ∧ p < q ∧ q ≤ s.size ∧ l.size + p + 1 = q:=by
 have hup:=indexByte_lt' (s.extract p s.size).data.toList 10
 rw [data_length] at hup
 have hsz : (s.extract p s.size).size = s.size - p:=by simp
 unfold lineF at h
 split at h
 ·cases h
 ·injection h with h
  injection h with h1 h2
  subst h1
  subst h2
  obtain ⟨k,hk⟩ : ∃ k : Nat,Lib.indexByte (s.extract p s.size).data.toList 10 = k:=⟨(Lib.indexByte (s.extract p s.size).data.toList 10).toNat,by omega⟩
  rw [hk] at hup ⊢
  have : (s.extract p (p + (k : Int).toNat)).size = k:=by rw [ByteArray.size_extract];omega
  omega
end Go.Proofs.YtdmngdohlobogaaGreatDoor.Asc
end
section
namespace Go.Proofs.YtdmngdohlobogaaGreatDoor.Asc
open Go Go.RowKit Go.Proofs.YtdmngdohlobogaaGreatDoorW.PrintWords Go.Proofs.YtdmngdohlobogaaGreatDoorW.PrintLast Go.Proofs.YtdmngdohlobogaaGreatDoorW.PrintMore
set_option linter.unusedVariables false
set_option linter.unusedSimpArgs false
theorem row_some {W : World} {base : Nat} {ok : Nat → Prop} {v : Value} {xs : List Int} (h : Kd.R (Kd.int .i64) 3 W base ok v xs) (h0 : 0 < xs.length) : ∃ g cp,v = .slice (some ⟨g,0,none⟩) xs.length cp ∧ base ≤ g ∧ ∀ i,i < xs.length → W.cell? ⟨g,i,none⟩ = some (.int .i64 (xs.getD i 0)):=by
 have ho:=Kd.own_of_R h
 have hh:=ho
 rcases hh.2 with ⟨_,h1⟩|⟨g,cap,cur,rfl,hg,_,_⟩
 ·omega
 ·refine ⟨g,cap,rfl,hg,fun i hi => ?_⟩
  have:=(own_at (k:=.i64) (xs:=xs) ho (i : Int) (by omega) (by omega)).1
  rw [Int.toNat_natCast] at this
  rw [this]
  simp [rd]
def appOk {α : Type} (acc : List α) : Except Nat (List α × Nat) → Except Nat (List α × Nat)
 |.error e => .error e
 |.ok (l,q) => .ok (acc ++ l,q)
theorem appOk_nil {α : Type} (r : Except Nat (List α × Nat)) : appOk [] r = r:=by
 cases r with
 |error e => rfl
 |ok x => rfl
theorem appOk_app {α : Type} (a b : List α) (r : Except Nat (List α × Nat)) : appOk a (appOk b r) = appOk (a ++ b) r:=by
 cases r with
 |error e => rfl
 |ok x => simp [appOk]
theorem KR.row {w W : World} {R base : Nat} {ok : Nat → Prop} {v : Value} {xs : List Int} (h : KR w W R) (hr : Kd.R (Kd.int .i64) 3 w base (fun k => ok k ∧ k ≠ R) v xs) : Kd.R (Kd.int .i64) 3 W base (fun k => ok k ∧ k ≠ R) v xs :=
 Kd.R_step hr (fun k hk hlt => h.kb.2 k hlt hk.2)
theorem row_far {w : World} {R base : Nat} {v : Value} {xs : List Int} (hR : R < base) (hr : Kd.R (Kd.int .i64) 3 w base (fun _ => True) v xs) : Kd.R (Kd.int .i64) 3 w base (fun k => True ∧ k ≠ R) v xs :=
 Kd.R_mono (Kd.R_bound hr) (fun k hk => ⟨trivial,by have:=hk.2.1;omega⟩)
theorem KR.grown {w W V : World} {R : Nat} {row : Option Nat} (h : KR w W R) (hg : W.grownBy V row) (hr : ∀ k,row = some k → w.heap.size ≤ k) (hR : R ≤ w.heap.size) : KR w V R :=
 ⟨⟨Nat.le_trans h.kb.1 hg.size,fun k hk hne => (hg.block k (Nat.lt_of_lt_of_le hk h.kb.1) (fun e => by have:=hr k e.symm;omega)).trans (h.kb.2 k hk hne)⟩,h.be.grown hg (Nat.le_trans hR h.kb.1) (fun k e => Nat.le_trans hR (hr k e))⟩
theorem RD.grown {w W : World} {R p : Nat} {s : ByteArray} {row : Option Nat} (h : RD w R s p) (hg : w.grownBy W row) (hne : some R ≠ row) : RD W R s p:=blk_grown h hg hne
theorem info3a : (Tryz.prog.info? 3).map (fun i => (i.zero,i.size,i.bytes)) = some (some (.int .i64 0),1,8):=by kernel_rfl
end Go.Proofs.YtdmngdohlobogaaGreatDoor.Asc
end
