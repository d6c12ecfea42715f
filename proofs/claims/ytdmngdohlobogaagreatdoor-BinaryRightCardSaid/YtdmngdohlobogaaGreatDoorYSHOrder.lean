import Derived.Test.YtdmngdohlobogaaGreatDoorYSHOrderM
namespace Go.Proofs.YtdmngdohlobogaaGreatDoor.Asc
open Go Go.RowKit Go.Proofs.YtdmngdohlobogaaGreatDoorW.PrintWords Go.Proofs.YtdmngdohlobogaaGreatDoorW.PrintLast Go.Proofs.YtdmngdohlobogaaGreatDoorW.PrintMore
set_option linter.unusedVariables false
set_option linter.unusedSimpArgs false
abbrev St:=List Int × List (List Int)
def oStep (i : Nat) (st : St) (x : Int) : St:=(st.1.set i (st.1.getD i 0 + 1),st.2.set x.toNat (st.2.getD x.toNat [] ++ [(i : Int)]))
def oFrom (by_ : List S40) : List S125 → Nat → St → St
 |[],_,st => st
 |x :: xs,i,st => oFrom by_ xs (i + 1) ((belowF by_ x).foldl (oStep i) st)
def oReady : List Int → Nat → List Int → List Int
 |[],_,l => l
 |q :: qs,i,l => oReady qs (i + 1) (if q = 0 then insF l (i : Int) else l)
structure P1 (n m : Nat) (st : St) : Prop where
 l1 : st.1.length = n
 l2 : st.2.length = n
 b1 : ∀ y ∈ st.1,0 ≤ y ∧ y ≤ m
 b2 : ∀ r ∈ st.2,r.length ≤ m ∧ ∀ y ∈ r,0 ≤ y ∧ y < n
theorem P1.more {n m m' : Nat} {st : St} (h : P1 n m st) (hm : m ≤ m') : P1 n m' st :=
 ⟨h.l1,h.l2,fun y hy => ⟨(h.b1 y hy).1,by have:=(h.b1 y hy).2;omega⟩,fun r hr => ⟨by have:=(h.b2 r hr).1;omega,(h.b2 r hr).2⟩⟩
theorem P1.step {n m i : Nat} {st : St} {x : Int} (h : P1 n m st) (hi : i < n) (hx : 0 ≤ x ∧ x < n) : P1 n (m + 1) (oStep i st x):=by
 obtain ⟨j,rfl⟩ : ∃ j : Nat,x = (j : Int):=⟨x.toNat,by omega⟩
 have hj : j < n:=by omega
 refine ⟨by simp [oStep,h.l1],by simp [oStep,h.l2],?_,?_⟩
 ·intro y hy
  rcases List.mem_or_eq_of_mem_set hy with hy|rfl
  ·have:=h.b1 y hy
   omega
  ·have hl : i < st.1.length:=by rw [h.l1];exact hi
   have:=h.b1 (st.1.getD i 0) (by rw [List.getD_eq_getElem?_getD,List.getElem?_eq_getElem hl];exact List.getElem_mem _)
   omega
 ·intro r hr
  rcases List.mem_or_eq_of_mem_set hr with hr|rfl
  ·have:=h.b2 r hr
   exact ⟨by omega,this.2⟩
  ·have hl : j < st.2.length:=by rw [h.l2];exact hj
   have:=h.b2 (st.2.getD j []) (by rw [List.getD_eq_getElem?_getD,List.getElem?_eq_getElem hl];exact List.getElem_mem _)
   rw [Int.toNat_natCast]
   refine ⟨by rw [List.length_append,List.length_singleton];omega,fun y hy => ?_⟩
   rcases List.mem_append.1 hy with hy|hy
   ·exact this.2 y hy
   ·rw [List.mem_singleton] at hy
    omega
def dStep (st : List Int × List Int) (y : Int) : List Int × List Int:=(st.1.set y.toNat (st.1.getD y.toNat 0 - 1),if st.1.getD y.toNat 0 - 1 = 0 then insF st.2 y else st.2)
def oLoop (above : List (List Int)) : Nat → List Int → List Int → List Int → List Int
 |0,_,_,out => out
 |k + 1,lack,l,out => match l.getLast? with
  |none => out
  |some x => oLoop above k ((above.getD x.toNat []).foldl dStep (lack,l.dropLast)).1 ((above.getD x.toNat []).foldl dStep (lack,l.dropLast)).2 (out ++ [x])
theorem oLoop_nil (above : List (List Int)) (k : Nat) (lack out : List Int) : oLoop above k lack [] out = out:=by cases k <;> rfl
theorem oLoop_snoc (above : List (List Int)) (k : Nat) (lack l out : List Int) (x : Int) : oLoop above (k + 1) lack (l ++ [x]) out = oLoop above k ((above.getD x.toNat []).foldl dStep (lack,l)).1 ((above.getD x.toNat []).foldl dStep (lack,l)).2 (out ++ [x]):=by
 rw [oLoop]
 simp
def tot (l : List Int) : Nat:=(l.map Int.toNat).sum
theorem tot_set : ∀ (l : List Int) (i : Nat) (v : Int),i < l.length → tot (l.set i v) + (l.getD i 0).toNat = tot l + v.toNat
 |a :: l,0,v,_ => by simp [tot];omega
 |a :: l,i + 1,v,h => by
  have:=tot_set l i v (by simpa using h)
  simp only [tot,List.set_cons_succ,List.map_cons,List.sum_cons,List.getD_cons_succ] at this ⊢
  omega
theorem tot_le : ∀ (l : List Int) (B : Nat),(∀ y ∈ l,y ≤ B) → tot l ≤ l.length * B
 |[],B,_ => by simp [tot]
 |a :: l,B,h => by
  have h1:=tot_le l B (fun y hy => h y (List.mem_cons_of_mem _ hy))
  have h2:=h a List.mem_cons_self
  simp only [tot,List.map_cons,List.sum_cons,List.length_cons,Nat.succ_mul] at h1 ⊢
  omega
structure P3 (n K D : Nat) (st : List Int × List Int) : Prop where
 ll : st.1.length = n
 lo : ∀ y ∈ st.1,-(D : Int) ≤ y ∧ y ≤ 65536
 el : ∀ y ∈ st.2,0 ≤ y ∧ y < n
 me : st.2.length + tot st.1 ≤ K
theorem P3.more {n K D D' : Nat} {st : List Int × List Int} (h : P3 n K D st) (hd : D ≤ D') : P3 n K D' st:=⟨h.ll,fun y hy => by have:=h.lo y hy;omega,h.el,h.me⟩
theorem P3.pop {n K D : Nat} {lack l : List Int} {x : Int} (h : P3 n (K + 1) D (lack,l ++ [x])) : P3 n K D (lack,l) ∧ 0 ≤ x ∧ x < n:=by
 have h1:=h.el x (by simp)
 have h2:=h.me
 simp only [List.length_append,List.length_singleton] at h2
 exact ⟨⟨h.ll,h.lo,fun y hy => h.el y (List.mem_append_left _ hy),by show l.length + tot lack ≤ K;omega⟩,h1⟩
theorem P3.zero {n D : Nat} {lack l : List Int} {x : Int} (h : P3 n 0 D (lack,l ++ [x])) : False:=by
 have h2:=h.me
 simp only [List.length_append,List.length_singleton] at h2
 omega
theorem P3.dec {n K D : Nat} {st : List Int × List Int} {y : Int} (h : P3 n K D st) (hy : 0 ≤ y ∧ y < n) : P3 n K (D + 1) (dStep st y):=by
 obtain ⟨j,rfl⟩ : ∃ j : Nat,y = (j : Int):=⟨y.toNat,by omega⟩
 have hj : j < st.1.length:=by rw [h.ll];omega
 have hq:=h.lo (st.1.getD j 0) (by rw [List.getD_eq_getElem?_getD,List.getElem?_eq_getElem hj];exact List.getElem_mem _)
 have ht:=tot_set st.1 j (st.1.getD j 0 - 1) hj
 have hm:=h.me
 refine ⟨by simp [dStep,h.ll],?_,?_,?_⟩
 ·intro z hz
  rcases List.mem_or_eq_of_mem_set hz with hz|rfl
  ·have:=h.lo z hz
   omega
  ·rw [Int.toNat_natCast]
   omega
 ·intro z hz
  simp only [dStep,Int.toNat_natCast] at hz
  split at hz
  ·rcases insF_mem hz with rfl|hz
   ·exact hy
   ·exact h.el z hz
  ·exact h.el z hz
 ·simp only [dStep,Int.toNat_natCast]
  split
  ·rw [insF_len]
   omega
  ·omega
def orderF (by_ : List S40) (ands : List S125) : List Int :=
 oLoop (oFrom by_ ands 0 (List.replicate ands.length 0,List.replicate ands.length [])).2 ((oReady (oFrom by_ ands 0 (List.replicate ands.length 0,List.replicate ands.length [])).1 0 []).length + tot (oFrom by_ ands 0 (List.replicate ands.length 0,List.replicate ands.length [])).1) (oFrom by_ ands 0 (List.replicate ands.length 0,List.replicate ands.length [])).1 (oReady (oFrom by_ ands 0 (List.replicate ands.length 0,List.replicate ands.length [])).1 0 []) []
theorem P1.start (n : Nat) : P1 n 0 (List.replicate n 0,List.replicate n []):=by
 refine ⟨by simp,by simp,?_,?_⟩
 ·intro y hy
  have:=List.eq_of_mem_replicate hy
  omega
 ·intro r hr
  have:=List.eq_of_mem_replicate hr
  subst this
  exact ⟨Nat.le_refl _,fun y hy => by cases hy⟩
theorem belowF_mem {by_ : List S40} {n : Nat} (h : ∀ m ∈ by_,m.f0 = 3 → 0 ≤ m.f1 ∧ m.f1 < n) (x : S125) : ∀ y ∈ belowF by_ x,0 ≤ y ∧ y < n:=by
 have key : ∀ l : Int,∀ y ∈ belowOf by_ l,0 ≤ y ∧ y < n:=by
  intro l y hy
  unfold belowOf at hy
  split at hy
  ·rename_i h3
   rw [List.mem_singleton] at hy
   subst hy
   unfold makerOf at h3 ⊢
   rw [List.getD_eq_getElem?_getD] at h3 ⊢
   cases hg : by_[(l / 2).toNat]? with
   |none => rw [hg] at h3;exact absurd h3 (by decide)
   |some m =>
    rw [hg] at h3
    exact h m (List.mem_of_getElem? hg) h3
  ·cases hy
 intro y hy
 rcases List.mem_append.1 hy with hy|hy
 ·exact key _ y hy
 ·exact key _ y hy
theorem belowF_len (by_ : List S40) (x : S125) : (belowF by_ x).length ≤ 2:=by
 have h1:=belowOf_len by_ x.f1
 have h2:=belowOf_len by_ x.f2
 simp only [belowF,List.length_append]
 omega
theorem OM.start {n : Nat} {w W : World} (hb : W = (w.alloc (.cells (encI (List.replicate n 0)).toArray 3)).alloc (.cells (List.replicate n nilS).toArray 22)) : OM W w.heap.size w.heap.size (w.heap.size + 1) (List.replicate n 0) (List.replicate n nilS) (List.replicate n []):=by
 have hnil : ∀ i,rowAt (List.replicate n nilS) i = nilS:=by
  intro i
  unfold rowAt
  rw [List.getD_eq_getElem?_getD,List.getElem?_replicate]
  split <;> rfl
 subst hb
 refine ⟨?_,?_,by simp,?_,?_,?_⟩
 ·have:=blk_new w (.cells (encI (List.replicate n 0)).toArray 3)
  exact ((eA_ (w:=w.alloc (.cells (encI (List.replicate n 0)).toArray 3)) (Below.refl _ _) (.cells (List.replicate n nilS).toArray 22)).block w.heap.size (by rw [World.size_alloc];omega)).trans this
 ·have:=blk_new (w.alloc (.cells (encI (List.replicate n 0)).toArray 3)) (.cells (List.replicate n nilS).toArray 22)
  rw [World.size_alloc] at this
  exact this
 ·intro i hi
  rw [hnil]
  have : (List.replicate n ([] : List Int)).getD i [] = []:=by
   rw [List.getD_eq_getElem?_getD,List.getElem?_replicate]
   split <;> rfl
  rw [this]
  exact Kd.R_nil _ _ _ _ _
 ·intro i j k _ hk
  rw [hnil] at hk
  cases hk
 ·intro i k hk
  rw [hnil] at hk
  cases hk
set_option maxHeartbeats 8000000 in
set_option maxRecDepth 100000 in
theorem order_calls {g b : Nat} {c : S65} {a : CA} {by_ : List S40} {w : World} (hL : LK w g b c a by_) (hC : CR w c a) (hm1 : c.f0 ≤ 16384) (hn : (by_.length : Int) = c.f0 + 1) (hn8 : c.f8.length ≤ 16384)
  (hx : ∀ x ∈ c.f8,(0 ≤ x.f1 ∧ x.f1 ≤ 2 * c.f0 + 1) ∧ (0 ≤ x.f2 ∧ x.f2 ≤ 2 * c.f0 + 1)) (hby : ∀ m ∈ by_,m.f0 = 3 → 0 ≤ m.f1 ∧ m.f1 < c.f8.length) :
  Calls Tryz.prog 68 #[.pointer (some ⟨g,0,none⟩)] w fun e w' => ∃ u,e = .returned u ∧ OwnI w' w.heap.size u (orderF by_ c.f8) ∧ Below w.heap.size w w':=by
 have hu150:=Tryz.underlying127
 have hu65:=Tryz.underlying29
 have f8 : w.cell? ⟨g,8,none⟩ = some (.slice a.A8 c.f8.length a.c8):=(hL.cell 8).trans rfl
 have m1:=make47 w c.f8.length (by omega)
 have m2:=make62 (w.alloc (.cells (encI (List.replicate c.f8.length 0)).toArray 3)) c.f8.length (by omega)
 rw [World.size_alloc] at m2
 obtain ⟨W,hW⟩ : ∃ W,W = (w.alloc (.cells (encI (List.replicate c.f8.length 0)).toArray 3)).alloc (.cells (List.replicate c.f8.length nilS).toArray 22):=⟨_,rfl⟩
 have hO:=OM.start hW
 have hB : Below w.heap.size w W:=hW ▸ eA_ (eA_ (Below.refl _ _) _) _
 obtain ⟨FIN,hF⟩ : ∃ FIN,oFrom by_ c.f8 0 (List.replicate c.f8.length 0,List.replicate c.f8.length []) = FIN:=⟨_,rfl⟩
 rw [← hW] at m2
 have HRES : A0_ (orderF by_ c.f8 = oLoop FIN.2 ((oReady FIN.1 0 []).length + tot FIN.1) FIN.1 (oReady FIN.1 0 []) []):=⟨by rw [← hF];rfl⟩
 have HL:=A0_.mk hL
 have HC:=A0_.mk hC
 have HO:=A0_.mk hO
 have HB:=A0_.mk hB
 have HF:=A0_.mk hF
 have HX:=A0_.mk hx
 have HBY:=A0_.mk hby
 have HM1:=A0_.mk hm1
 have HN:=A0_.mk hn
 have HN8:=A0_.mk hn8
 clear hL hC hO hB hF hx hby hm1 hn hn8 hW
 go_enter Tryz.func68,Tryz.ntmps68
 go_upto_region 4 with (fail)
 clear m1 m2 f8
 have HBA0 : A0_ (w.heap.size ≤ w.heap.size + 1):=⟨Nat.le_succ _⟩
 generalize w.heap.size + 1 = ba at HO HBA0 ⊢
 have HP : A0_ (P1 c.f8.length 0 (List.replicate c.f8.length 0,List.replicate c.f8.length [])):=⟨P1.start _⟩
 obtain ⟨bl,hbl⟩ : ∃ bl,w.heap.size = bl:=⟨_,rfl⟩
 have HBL : A0_ (w.heap.size ≤ bl):=⟨Nat.le_of_eq hbl⟩
 have HO1 : A0_ (OM W w.heap.size bl ba (List.replicate c.f8.length 0) (List.replicate c.f8.length nilS) (List.replicate c.f8.length [])):=⟨hbl ▸ HO.out⟩
 clear HO
 have HO:=HO1
 clear HO1
 rw [hbl]
 have HBA : A0_ (w.heap.size ≤ ba):=HBA0
 clear hbl HBA0
 generalize List.replicate c.f8.length (0 : Int) = lack0 at HO HF HP
 generalize List.replicate c.f8.length nilS = rows0 at HO
 generalize List.replicate c.f8.length ([] : List Int) = above0 at HO HF HP
 (try simp only [Act.put,sA_,sB_,sC_])
 go_wp2
 repeat (go_quiet (fail);try go_wp2)
 (try simp only [Act.put,sA_,sB_,sC_])
 go_loopg [27] (c.f8.length + 1) (fun kq v27 w' => ∃ (i : Nat) (lack : List Int) (rows : List Value) (above : List (List Int)),v27 = .int .i64 i ∧ A0_ (i + kq = c.f8.length + 1) ∧ A0_ (i ≤ c.f8.length) ∧ A0_ (OM w' w.heap.size bl ba lack rows above) ∧ A0_ (Below w.heap.size w w') ∧ A0_ (P1 c.f8.length (2 * i) (lack,above)) ∧ A0_ (oFrom by_ (c.f8.drop i) i (lack,above) = FIN))
 case atStart => exact ⟨0,lack0,rows0,above0,rfl,⟨by omega⟩,⟨Nat.zero_le _⟩,HO,HB,⟨HP.out.more (Nat.zero_le _)⟩,⟨by rw [List.drop_zero];exact HF.out⟩⟩
 case round =>
  clear HO HB HP HF
  obtain ⟨i,lack,rows,above,rfl,HK,HI,HO,HB,HP,HF⟩:=hrel
  by_cases ci : i < c.f8.length
  ·obtain ⟨k0,rfl⟩ : ∃ k0,gk = k0 + 1:=by
    cases gk with
    |zero => have:=HK.out;omega
    |succ k0 => exact ⟨k0,rfl⟩
   have cib : decide ((i : Int) < (c.f8.length : Int)) = true:=decide_eq_true (by omega)
   have hx:=HX.out c.f8[i] (List.getElem_mem _)
   have BC:=A0_.mk (below_calls (HL.out.below HB.out) (HC.out.below HB.out) i ci hx.1 hx.2 HM1.out HN.out)
   have hlen2:=A0_.mk (belowF_len by_ c.f8[i])
   have hmem:=A0_.mk (belowF_mem HBY.out c.f8[i])
   have hF:=HF.out
   rw [List.drop_eq_getElem_cons ci,oFrom] at hF
   clear HF hx
   generalize belowF by_ c.f8[i] = xs at BC hlen2 hmem hF
   obtain ⟨MID,hMID⟩ : ∃ MID,xs.foldl (oStep i) (lack,above) = MID:=⟨_,rfl⟩
   rw [hMID] at hF
   have HF:=A0_.mk hF
   have HMID:=A0_.mk hMID
   have CI:=A0_.mk ci
   clear hF hMID
   go_wp2_with (first|((with_reducible refine gate_callee (f:=100) rfl ?_);refine goesL_ (some 32) rfl rfl Tryz.func100 (by kernel_rfl) rfl #[.pointer (some ⟨g,0,none⟩),.int .i64 (i : Int)] rfl (by (try simp only [List.map_toArray,List.map_cons,List.map_nil]);first|done|rfl) ?_;(with_reducible refine (BC.out).mono ?_);rintro e w2 ⟨v,rfl,hV,hB2⟩;obtain ⟨A32,c32,rfl⟩:=Kd.R_slice hV;refine ⟨_,rfl,?_⟩)|go_in)
   repeat (go_quiet (fail);try go_wp2)
   have HV:=A0_.mk (show OwnI w2 wr.heap.size (.slice A32 xs.length c32) xs from hV)
   have HOFF : A0_ (Off rows bl (.slice A32 xs.length c32)):=⟨fun k hk => by
    have h1:=(HV.out.lt k hk).1
    exact ⟨fun e => by have:=HO.out.ltL;omega,fun j hj => by have:=HO.out.lt j k hj;omega⟩⟩
   have HO2 : A0_ (OM w2 w.heap.size bl ba lack rows above):=⟨HO.out.below hB2⟩
   have HB2 : A0_ (Below w.heap.size w w2):=⟨HB.out.trans (lower_ HB.out.size hB2)⟩
   generalize wr.heap.size = g1 at HV
   clear HO HB hV hB2 BC
   have HP2 : A0_ (P1 c.f8.length (2 * i + 0) (lack,above)):=HP
   clear HP
   (try simp only [Act.put,sA_,sB_,sC_])
   go_loopg [34] (xs.length + 1) (fun kq v34 w' => ∃ (j : Nat) (lack : List Int) (rows : List Value) (above : List (List Int)),v34 = .int .i64 j ∧ A0_ (j + kq = xs.length + 1) ∧ A0_ (j ≤ xs.length) ∧ A0_ (OM w' w.heap.size bl ba lack rows above) ∧ A0_ (Below w.heap.size w w') ∧ A0_ (P1 c.f8.length (2 * i + j) (lack,above)) ∧ A0_ (OwnI w' g1 (.slice A32 xs.length c32) xs) ∧ A0_ (Off rows bl (.slice A32 xs.length c32)) ∧ A0_ ((xs.drop j).foldl (oStep i) (lack,above) = MID))
   case atStart => exact ⟨0,lack,rows,above,rfl,⟨by omega⟩,⟨Nat.zero_le _⟩,HO2,HB2,HP2,HV,HOFF,⟨by rw [List.drop_zero];exact HMID.out⟩⟩
   case round =>
    clear HO2 HB2 HP2 HV HOFF HMID
    obtain ⟨j,lack,rows,above,rfl,HKJ,HJ,HO,HB,HP,HV,HOFF,HMID⟩:=hrel
    by_cases cj : j < xs.length
    ·have cjb : decide ((j : Int) < (xs.length : Int)) = true:=decide_eq_true (by omega)
     have p0 : (0 ≤ (j : Int)) = True:=eq_true (by omega)
     have p1 : ((j : Int) < (xs.length : Int)) = True:=eq_true (by omega)
     obtain ⟨A',c',e',_,hCv⟩:=Kd.R_reads HV.out
     cases e'
     obtain ⟨ad,ea,hc⟩:=C_int_get hCv j cj
     cases ea
     have hmj:=hmem.out xs[j] (List.getElem_mem _)
     have hM:=HMID.out
     rw [List.drop_eq_getElem_cons cj,List.foldl_cons] at hM
     clear HMID hCv
     generalize xs[j] = y at hmj hM hc
     obtain ⟨y,rfl⟩ : ∃ y' : Nat,y = (y' : Int):=⟨y.toNat,by omega⟩
     have hyn : y < c.f8.length:=by omega
     have q0 : (0 ≤ (y : Int)) = True:=eq_true (by omega)
     have q1 : ((y : Int) < (c.f8.length : Int)) = True:=eq_true (by omega)
     have r0 : (0 ≤ (i : Int)) = True:=eq_true (by omega)
     have r1 : ((i : Int) < (c.f8.length : Int)) = True:=eq_true (by have:=CI.out;omega)
     have hil : i < lack.length:=by have h1:=HP.out.l1;dsimp only at h1;omega
     have hyl : y < above.length:=by have h1:=HP.out.l2;dsimp only at h1;omega
     obtain ⟨q,hq⟩ : ∃ q,lack.getD i 0 = q:=⟨_,rfl⟩
     obtain ⟨r,hr⟩ : ∃ r,above.getD y [] = r:=⟨_,rfl⟩
     have l0 : wr.cell? ⟨bl,i,none⟩ = some (.int .i64 q):=by
      rw [bC_ HO.out.hl i,← hq]
      simp [encI,hil]
     have l1:=bF_ HO.out.hl i
     have lb:=HP.out.b1 (lack.getD i 0) (by rw [List.getD_eq_getElem?_getD,List.getElem?_eq_getElem hil];exact List.getElem_mem _)
     have lr:=HP.out.b2 (above.getD y []) (by rw [List.getD_eq_getElem?_getD,List.getElem?_eq_getElem hyl];exact List.getElem_mem _)
     rw [hq] at lb
     rw [hr] at lr
     have lw : IntKind.i64.wrap (q + 1) = q + 1:=by have:=HJ.out;have:=HN8.out;have:=hlen2.out;rw [IntKind.wrap_i64];omega
     have hP3:=HP.out.step ci hmj
     rw [show oStep i (lack,above) (y : Int) = (lack.set i (q + 1),above.set y (r ++ [(i : Int)])) by simp only [oStep,Int.toNat_natCast,hq,hr]] at hM hP3
     have HP3:=A0_.mk hP3
     have HM:=A0_.mk hM
     have HO3:=A0_.mk (HO.out.setl i (q + 1))
     have HB3 : A0_ (Below w.heap.size w (wr.setCell ⟨bl,i,none⟩ (.int .i64 (q + 1)))):=⟨HB.out.trans (below_cells HBL.out [_] i (Below.refl _ _))⟩
     have HV3:=A0_.mk (HV.out.setL (x:=i) (u:=.int .i64 (q + 1)) (fun k hk => (HOFF.out k hk).1))
     have HR:=A0_.mk hr
     have LR:=A0_.mk lr.1
     have HYL:=A0_.mk hyl
     clear hmj hM hil lb HP HO HB HV hq hr lr hP3 hyl
     go_upto_region 11 with (fail)
     clear l0 l1 lw hc
     generalize wr.setCell ⟨bl,i,none⟩ (.int .i64 (q + 1)) = W1 at HO3 HB3 HV3 ⊢
     have hOr:=HO3.out.own y HYL.out
     rw [HR.out] at hOr
     obtain ⟨A1,c1,he1⟩:=Kd.R_slice hOr
     have y0 : W1.cell? ⟨ba,y,none⟩ = some (.slice A1 r.length c1):=by
      rw [bC_ HO3.out.ha y,← he1]
      have : y < rows.length:=by rw [HO3.out.len];exact HYL.out
      simp [rowAt,this]
     have HE1:=A0_.mk he1
     have HOR:=A0_.mk (he1 ▸ hOr)
     have hs1 : w.heap.size ≤ W1.heap.size:=HB3.out.size
     have HS1:=A0_.mk hs1
     clear he1 hOr hs1
     have hw1 : IntKind.i64.wrap ((j : Int) + 1) = ((j + 1 : Nat) : Int):=by have:=hlen2.out;rw [IntKind.wrap_i64];omega
     go_wp2_with (first|(at_builtin;refine Kd.R_append (Kd.int .i64) (w0:=w) w.heap.size rfl (.tmp 49) (.tmp 51) 22 3 (.int .i64 0) 8 rfl Tryz.underlying22 info3 rfl (by decide) (by decide) _ r (i : Int) [.int .i64 (i : Int)] (fun _ => True) (fun _ => False) rfl rfl rfl (fun _ h => h.elim) (fun _ _ => trivial) HOR.out HB3.out HS1.out (by have:=LR.out;have:=HJ.out;have:=HN8.out;have:=hlen2.out;omega) ?_;intro v3 w3 hr3 hb3 hg3 hat3;obtain ⟨A3,c3,rfl⟩:=Kd.R_slice hr3;rw [← HE1.out] at hg3 hat3;have yb:=(hg3.block ba HO3.out.ltA (fun e => HO3.out.neA y ba e.symm rfl)).trans HO3.out.ha;have z1:=bF_ yb y;have z0 : (w3.cell? ⟨ba,y,none⟩).isSome = true:=(by rw [bC_ yb y];have : y < rows.length:=(by rw [HO3.out.len];exact HYL.out);simp [this]);obtain ⟨z,z2⟩:=Option.isSome_iff_exists.1 z0;have HR3:=A0_.mk hr3;have HB4:=A0_.mk hb3;have HG3:=A0_.mk hg3;have HAT3:=A0_.mk hat3;clear hr3 hb3 hg3 hat3 yb z0)|go_in)
     repeat (go_quiet (fail);try go_wp2)
     have e3 : (r ++ [(i : Int)]).length = r.length + 1:=by rw [List.length_append];rfl
     have HR4 : A0_ (OwnI w3 w.heap.size (.slice A3 (r.length + 1) c3) (above.getD y [] ++ [(i : Int)])):=⟨by rw [HR.out];exact e3 ▸ HR3.out⟩
     have HAT4 : A0_ ((Value.slice A3 (r.length + 1) c3).ownBlock = (rowAt rows y).ownBlock ∨ ∃ b,(Value.slice A3 (r.length + 1) c3).ownBlock = some b ∧ W1.heap.size ≤ b):=⟨e3 ▸ HAT3.out⟩
     have hO5:=HO3.out.app HYL.out HG3.out HR4.out HAT4.out
     rw [HR.out] at hO5
     have HO5:=A0_.mk hO5
     have hV5:=HO3.out.app_off HYL.out HG3.out HAT4.out HV3.out HOFF.out
     have HV5:=A0_.mk hV5.1
     have HOFF5:=A0_.mk hV5.2
     have HB5 : A0_ (Below w.heap.size w (w3.setCell ⟨ba,y,none⟩ (.slice A3 (r.length + 1) c3))):=⟨HB4.out.trans (below_cells HBA.out [_] y (Below.refl _ _))⟩
     clear hO5 hV5 e3
     obtain ⟨kk,rfl⟩ : ∃ kk,gk = kk + 1:=by
      cases gk with
      |zero => have:=HKJ.out;omega
      |succ kk => exact ⟨kk,rfl⟩
     go_roundg kk
     case measure => omega
     case rel => exact ⟨j + 1,_,_,_,rfl,⟨by have:=HKJ.out;omega⟩,⟨by omega⟩,HO5,HB5,HP3,HV5,HOFF5,HM⟩
    ·have cjb : decide ((j : Int) < (xs.length : Int)) = false:=decide_eq_false (by omega)
     have hM:=HMID.out
     rw [List.drop_eq_nil_of_le (by omega),List.foldl_nil] at hM
     have HF2 : A0_ (oFrom by_ (c.f8.drop (i + 1)) (i + 1) (lack,above) = FIN):=⟨by rw [hM];exact HF.out⟩
     have hw1 : IntKind.i64.wrap ((i : Int) + 1) = ((i + 1 : Nat) : Int):=by have:=HN8.out;rw [IntKind.wrap_i64];omega
     clear HF HMID hM HV HOFF
     have HP2 : A0_ (P1 c.f8.length (2 * (i + 1)) (lack,above)):=⟨HP.out.more (by have:=HJ.out;have:=hlen2.out;omega)⟩
     go_wp2
     repeat (go_quiet (fail);try go_wp2)
     go_roundg k0
     case measure => omega
     case rel => exact ⟨i + 1,lack,rows,above,rfl,⟨by have:=HK.out;omega⟩,⟨by omega⟩,HO,HB,HP2,HF2⟩
  ·have cib : decide ((i : Int) < (c.f8.length : Int)) = false:=decide_eq_false (by omega)
   have hF:=HF.out
   rw [List.drop_eq_nil_of_le (by omega),oFrom] at hF
   clear HF
   go_wp2
   repeat (go_quiet (fail);try go_wp2)
   obtain rfl : i = c.f8.length:=by have:=HI.out;omega
   have hO1 : OM (wr.alloc (.cells #[.slice none 0 0] 22)) w.heap.size bl ba lack rows above:=HO.out.below (eA_ (Below.refl _ _) _)
   have hR1 : RS (wr.alloc (.cells #[.slice none 0 0] 22)) w.heap.size bl ba wr.heap.size rows nilS []:=⟨blk_new wr _,Kd.R_nil _ _ _ _ _,(fun k hk => by cases hk),(fun e => by have:=HO.out.ltA;omega),(fun e => by have:=HO.out.ltL;omega),(fun j e => by have:=HO.out.lt j _ e;omega)⟩
   have hB1 : Below w.heap.size w (wr.alloc (.cells #[.slice none 0 0] 22)):=HB.out.trans (lower_ HB.out.size (eA_ (Below.refl _ _) _))
   have HO1:=A0_.mk hO1
   have HR1:=A0_.mk hR1
   have HB1:=A0_.mk hB1
   have HRB : A0_ (w.heap.size ≤ wr.heap.size):=⟨HB.out.size⟩
   have hF1 : lack = FIN.1:=by rw [← hF]
   have hF2 : above = FIN.2:=by rw [← hF]
   have HFL:=A0_.mk hF1
   have HFA:=A0_.mk hF2
   clear hO1 hR1 hB1 hF hF1 hF2 HO HB ci cib
   generalize wr.heap.size = rb at *
   generalize wr.alloc (.cells #[.slice none 0 0] 22) = W1 at HO1 HR1 HB1 ⊢
   (try simp only [Act.put,sA_,sB_,sC_])
   obtain ⟨FIN2,hF2⟩ : ∃ FIN2,oReady lack 0 [] = FIN2:=⟨_,rfl⟩
   have HF2:=A0_.mk hF2
   have HF20:=A0_.mk hF2
   have HLL : A0_ (lack.length = c.f8.length):=⟨HP.out.l1⟩
   clear hF2
   go_loopg [58] (c.f8.length + 1) (fun kq v58 w' => ∃ (i : Nat) (v : Value) (l : List Int),v58 = .int .i64 i ∧ A0_ (i + kq = c.f8.length + 1) ∧ A0_ (i ≤ c.f8.length) ∧ A0_ (OM w' w.heap.size bl ba lack rows above) ∧ A0_ (RS w' w.heap.size bl ba rb rows v l) ∧ A0_ (Below w.heap.size w w') ∧ A0_ (l.length ≤ i ∧ ∀ y ∈ l,0 ≤ y ∧ y < c.f8.length) ∧ A0_ (oReady (lack.drop i) i l = FIN2))
   case atStart => exact ⟨0,nilS,[],rfl,⟨by omega⟩,⟨Nat.zero_le _⟩,HO1,HR1,HB1,⟨Nat.zero_le _,fun y hy => by cases hy⟩,⟨by rw [List.drop_zero];exact HF2.out⟩⟩
   case round =>
    clear HO1 HR1 HB1 HF2 HK HI
    obtain ⟨i,v,l,rfl,HK,HI,HO,HR,HB,HV,HF2⟩:=hrel
    by_cases ci : i < c.f8.length
    ·obtain ⟨k2,rfl⟩ : ∃ k2,gk = k2 + 1:=by
      cases gk with
      |zero => have:=HK.out;omega
      |succ k2 => exact ⟨k2,rfl⟩
     have cib : decide ((i : Int) < (c.f8.length : Int)) = true:=decide_eq_true (by omega)
     have p0 : (0 ≤ (i : Int)) = True:=eq_true (by omega)
     have p1 : ((i : Int) < (c.f8.length : Int)) = True:=eq_true (by omega)
     have hw1 : IntKind.i64.wrap ((i : Int) + 1) = ((i + 1 : Nat) : Int):=by have:=HN8.out;rw [IntKind.wrap_i64];omega
     have hil : i < lack.length:=by have:=HLL.out;omega
     have hf:=HF2.out
     rw [List.drop_eq_getElem_cons hil,oReady] at hf
     have l0 : wr.cell? ⟨bl,i,none⟩ = some (.int .i64 lack[i]):=by
      rw [bC_ HO.out.hl i]
      simp [encI,hil]
     clear HF2
     generalize lack[i] = q at hf l0
     by_cases cq : q = 0
     ·subst cq
      rw [if_pos rfl] at hf
      have HF2:=A0_.mk hf
      have PC:=A0_.mk (push_calls HR.out.hr HR.out.own HRB.out (i : Int) (by have:=HN8.out;omega) (fun y hy => by have:=HV.out.2 y hy;have:=HN8.out;omega) (by have:=HV.out.1;have:=HN8.out;omega))
      have HV2 : A0_ ((insF l (i : Int)).length ≤ i + 1 ∧ ∀ y ∈ insF l (i : Int),0 ≤ y ∧ y < c.f8.length):=⟨by have:=HV.out.1;rw [insF_len];omega,fun y hy => by
       rcases insF_mem hy with rfl|hy
       ·omega
       ·exact HV.out.2 y hy⟩
      clear hf hil
      go_wp2_with (first|((with_reducible refine gate_value (t:=66) rfl ?_);refine goesC_ (some 68) rfl rfl Tryz.func101 (by kernel_rfl) rfl #[.int .i64 (i : Int)] #[.pointer (some ⟨rb,0,none⟩)] #[.int .i64 (i : Int),.pointer (some ⟨rb,0,none⟩)] rfl rfl (by (try simp only [List.map_toArray,List.map_cons,List.map_nil]);first|done|rfl) rfl ?_;(with_reducible refine (PC.out).mono ?_);rintro e w4 ⟨rfl,v',hr4,ho4,hp4⟩;have HO4:=A0_.mk (HO.out.push HR.out hp4);have HR4:=A0_.mk (RS.push HO.out HR.out hp4 hr4 ho4);have HB4 : A0_ (Below w.heap.size w w4):=⟨HB.out.trans hp4.below⟩;clear hr4 ho4 hp4 PC;refine ⟨_,rfl,?_⟩)|go_in)
      repeat (go_quiet (fail);try go_wp2)
      go_roundg k2
      case measure => omega
      case rel => exact ⟨i + 1,v',insF l (i : Int),rfl,⟨by have:=HK.out;omega⟩,⟨by omega⟩,HO4,HR4,HB4,HV2,HF2⟩
     ·have cqb : (q == 0) = false:=beq_eq_false_iff_ne.mpr cq
      rw [if_neg cq] at hf
      have HF2:=A0_.mk hf
      clear hf hil
      go_wp2
      repeat (go_quiet (fail);try go_wp2)
      go_roundg k2
      case measure => omega
      case rel => exact ⟨i + 1,v,l,rfl,⟨by have:=HK.out;omega⟩,⟨by omega⟩,HO,HR,HB,⟨by have:=HV.out.1;omega,HV.out.2⟩,HF2⟩
    ·have cib : decide ((i : Int) < (c.f8.length : Int)) = false:=decide_eq_false (by omega)
     have hf:=HF2.out
     have hi9 : i = c.f8.length:=by have:=HI.out;omega
     rw [List.drop_eq_nil_of_le (by have:=HLL.out;omega),oReady] at hf
     clear HF2
     go_wp2
     repeat (go_quiet (fail);try go_wp2)
     have HRL : A0_ (∀ i,(above.getD i []).length ≤ 32768 ∧ ∀ y ∈ above.getD i [],0 ≤ y ∧ y < c.f8.length):=⟨fun i => by
      rw [List.getD_eq_getElem?_getD]
      cases hg : above[i]? with
      |none => exact ⟨Nat.zero_le _,fun y hy => by cases hy⟩
      |some r =>
       have:=HP.out.b2 r (List.mem_of_getElem? hg)
       have:=HN8.out
       exact ⟨by simp only [Option.getD_some];omega,by simpa using (HP.out.b2 r (List.mem_of_getElem? hg)).2⟩⟩
     obtain ⟨K0,hK0⟩ : ∃ K0,l.length + tot lack = K0:=⟨_,rfl⟩
     have HK0 : A0_ (K0 ≤ 1073741824):=⟨by
      have h1:=tot_le lack 32768 (fun y hy => by have:=HP.out.b1 y hy;have:=HN8.out;omega)
      have h2:=HV.out.1
      have h3:=HN8.out
      have h4:=HLL.out
      have h5 : lack.length * 32768 ≤ 16384 * 32768:=Nat.mul_le_mul_right _ (by omega)
      omega⟩
     have HP3 : A0_ (P3 c.f8.length K0 ((K0 - K0) * 32768) (lack,l)):=⟨HLL.out,fun y hy => by have:=HP.out.b1 y hy;have:=HN8.out;omega,HV.out.2,Nat.le_of_eq hK0⟩
     have HU : A0_ (US wr w.heap.size bl rb rows v (.slice none 0 0) []):=⟨Kd.R_nil _ _ _ _ _,(fun k hk => by cases hk),(fun k hk => by cases hk)⟩
     obtain ⟨FIN3,hF3⟩ : ∃ FIN3,oLoop above K0 lack l [] = FIN3:=⟨_,rfl⟩
     have HF3:=A0_.mk hF3
     have HAL : A0_ (above.length = c.f8.length):=⟨HP.out.l2⟩
     subst hi9
     have HOUT : A0_ (oLoop FIN.2 ((oReady FIN.1 0 []).length + tot FIN.1) FIN.1 (oReady FIN.1 0 []) [] = FIN3):=⟨by rw [← HFL.out,← HFA.out];have e : oReady lack 0 [] = l:=HF20.out.trans hf.symm;rw [e,hK0];exact HF3.out⟩
     clear hf hF3 hK0 HV HI HK cib ci HF20 HP
     (try simp only [Act.put,sA_,sB_,sC_])
     go_loopg [12] K0 (fun kq v12 w' => ∃ (lack l outl : List Int) (v : Value),A0_ (kq ≤ K0) ∧ A0_ (OM w' w.heap.size bl ba lack rows above) ∧ A0_ (RS w' w.heap.size bl ba rb rows v l) ∧ A0_ (US w' w.heap.size bl rb rows v v12 outl) ∧ A0_ (Below w.heap.size w w') ∧ A0_ (P3 c.f8.length kq ((K0 - kq) * 32768) (lack,l)) ∧ A0_ (outl.length ≤ K0 - kq) ∧ A0_ (oLoop above kq lack l outl = FIN3))
     case atStart => exact ⟨lack,l,[],v,⟨Nat.le_refl _⟩,HO,HR,HU,HB,HP3,⟨Nat.zero_le _⟩,HF3⟩
     case round =>
      clear HO HR HU HB HP3 HF3
      obtain ⟨lack,l,outl,v,HKQ,HO,HR,HU,HB,HP3,HOL,HF3⟩:=hrel
      have c0:=(bC_ HR.out.hr 0).trans (show (#[v] : Array Value)[0]? = some v from rfl)
      have c1:=bF_ HR.out.hr 0
      rcases List.eq_nil_or_concat l with rfl|⟨l,x,rfl⟩
      ·obtain ⟨A0,n0,rfl⟩:=Kd.R_slice HR.out.own
       obtain ⟨A12,n12,rfl⟩:=Kd.R_slice HU.out.own
       have hF:=HF3.out
       rw [oLoop_nil] at hF
       subst hF
       clear HF3
       go_wp2
       repeat (go_quiet (fail);try go_wp2)
       have HOWN:=A0_.mk HU.out.own
       go_ret
       refine ⟨_,rfl,?_,HB.out⟩
       rw [HRES.out,HOUT.out]
       exact HOWN.out
      ·rw [List.concat_eq_append] at HR HP3 HF3
       cases gk with
       |zero => exact (HP3.out.zero).elim
       |succ k3 =>
        have hpop:=HP3.out.pop
        have hF:=HF3.out
        rw [oLoop_snoc] at hF
        obtain ⟨x,rfl⟩ : ∃ x' : Nat,x = (x' : Int):=⟨x.toNat,by omega⟩
        rw [Int.toNat_natCast] at hF
        rcases HR.out.own.cases with ⟨_,hx⟩|⟨gr,cap,cur,rfl,h1,h2,h3,h4,h5,h6⟩
        ·simp at hx
        ·have hxn : x < c.f8.length:=by have:=hpop.2;omega
         obtain ⟨nn,hnn⟩ : ∃ nn,(l ++ [(x : Int)]).length = nn:=⟨_,rfl⟩
         obtain ⟨mm,hmm⟩ : ∃ mm,l.length = mm:=⟨_,rfl⟩
         have hnm : nn = mm + 1:=by rw [← hnn,← hmm];simp
         rw [hnn] at h3 h6 c0
         have hcx : wr.cell? ⟨gr,mm,none⟩ = some (.int .i64 (x : Int)):=by
          have:=cells_of h2 (by rw [hnn];exact h6) mm (.int .i64 (x : Int)) (by rw [← hmm];simp [encI])
          exact this
         have hlt : nn ≤ 1099511627776:=by have:=HP3.out.me;have:=HK0.out;have:=HKQ.out;dsimp only at *;omega
         have hw1 : IntKind.i64.wrap ((nn : Int) - 1) = (mm : Int):=by rw [IntKind.wrap_i64];omega
         have p0 : (0 ≤ (mm : Int)) = True:=eq_true (by omega)
         have p1 : ((mm : Int) < (nn : Int)) = True:=eq_true (by omega)
         have p2 : ((mm : Int) ≤ (cap : Int)) = True:=eq_true (by omega)
         have p3 : (0 : Int) < (nn : Int):=by omega
         have p4 : 0 < nn:=by omega
         have hI2 : OwnI wr w.heap.size (.slice (some ⟨gr,0,none⟩) mm cap) l:=OwnI.mk' hmm h1 h2 (by omega) h4 h5 (by
          have e : (cur.toList.take nn).take mm = (encI (l ++ [(x : Int)])).take mm:=by rw [h6]
          rw [List.take_take,Nat.min_eq_left (by omega)] at e
          rw [e]
          simp only [encI,List.map_append]
          exact List.take_left' (by simp [hmm]))
         have HI2:=A0_.mk hI2
         have HF4:=A0_.mk hF
         have HP4:=A0_.mk hpop.1
         have HXN:=A0_.mk hxn
         have HNM:=A0_.mk hnm
         have HNN:=A0_.mk hnn
         have HMM:=A0_.mk hmm
         clear hF hpop h2 h3 h4 h5 h6 hlt hI2 HF3 HP3 hnn hmm h1 hnm
         obtain ⟨A12,n12,rfl⟩:=Kd.R_slice HU.out.own
         go_upto_region 26 with (fail)
         have HO2:=A0_.mk (HO.out.setR HR.out (.slice (some ⟨gr,0,none⟩) mm cap))
         have HR2:=A0_.mk (RS.setR HR.out HI2.out rfl)
         have HU2:=A0_.mk (US.setR (x:=.slice (some ⟨gr,0,none⟩) mm cap) HR.out HU.out rfl)
         have HB2 : A0_ (Below w.heap.size w (wr.setCell ⟨rb,0,none⟩ (.slice (some ⟨gr,0,none⟩) mm cap))):=⟨HB.out.trans (below_cells HRB.out [_] 0 (Below.refl _ _))⟩
         have HS2 : A0_ (w.heap.size ≤ (wr.setCell ⟨rb,0,none⟩ (.slice (some ⟨gr,0,none⟩) mm cap)).heap.size):=⟨HB2.out.size⟩
         clear HO HR HU HB HI2 c0 c1 hcx hw1 p0 p1 p2 p3 p4
         generalize wr.setCell ⟨rb,0,none⟩ (.slice (some ⟨gr,0,none⟩) mm cap) = W2 at HO2 HR2 HU2 HB2 HS2 ⊢
         obtain ⟨ys,hys⟩ : ∃ ys,above.getD x [] = ys:=⟨_,rfl⟩
         have hOr:=HO2.out.own x (by have:=HAL.out;have:=HXN.out;omega)
         rw [hys] at hOr
         obtain ⟨Ax,cx,hex⟩:=Kd.R_slice hOr
         have hrl:=HRL.out x
         rw [hys] at hrl
         have hF:=HF4.out
         rw [hys] at hF
         have HYS:=A0_.mk hys
         have HEX:=A0_.mk hex
         have HRLY:=A0_.mk hrl
         have HF5:=A0_.mk hF
         have q0 : (0 ≤ (x : Int)) = True:=eq_true (by omega)
         have q1 : ((x : Int) < (c.f8.length : Int)) = True:=eq_true (by have:=HXN.out;omega)
         clear hOr hex hrl hys hF HF4
         go_wp2_with (first|(at_builtin;refine Kd.R_append (Kd.int .i64) (w0:=w) w.heap.size rfl (.tmp 84) (.tmp 86) 22 3 (.int .i64 0) 8 rfl Tryz.underlying22 info3 rfl (by decide) (by decide) _ outl x [.int .i64 x] (fun _ => True) (fun _ => False) rfl rfl rfl (fun _ h => h.elim) (fun _ _ => trivial) HU2.out.own HB2.out HS2.out (by have:=HOL.out;have:=HK0.out;omega) ?_;intro v3 w3 hr3 hb3 hg3 hat3;obtain ⟨A3,c3,rfl⟩:=Kd.R_slice hr3;have HO3:=A0_.mk (HO2.out.grown HU2.out.own HU2.out.off hg3);have HR3:=A0_.mk (RS.grown HR2.out HU2.out hg3);have HU3:=A0_.mk (US.grown HO2.out HR2.out HU2.out hr3 hat3);have HB3:=A0_.mk hb3;have y0 : w3.cell? ⟨ba,x,none⟩ = some (.slice Ax ys.length cx):=(by rw [bC_ HO3.out.ha x,← HEX.out];have : x < rows.length:=(by rw [HO3.out.len];have:=HAL.out;have:=HXN.out;omega);simp [rowAt,this]);clear hr3 hb3 hg3 hat3)|go_in)
         repeat (go_quiet (fail);try go_wp2)
         clear HO2 HR2 HU2 HB2 HS2 y0
         have e3 : (outl ++ [(x : Int)]).length = outl.length + 1:=by rw [List.length_append];rfl
         rw [e3] at HU3
         obtain ⟨MID3,hMID⟩ : ∃ MID3,ys.foldl dStep (lack,l) = MID3:=⟨_,rfl⟩
         have hF:=HF5.out
         rw [hMID] at hF
         have HF6:=A0_.mk hF
         have HMID:=A0_.mk hMID
         have HP5 : A0_ (P3 c.f8.length k3 ((K0 - (k3 + 1)) * 32768 + 0) (lack,l)):=HP4
         clear hMID hF HF5 HP4 e3
         (try simp only [Act.put,sA_,sB_,sC_])
         go_loopg [93] (ys.length + 1) (fun kq v93 w' => ∃ (j : Nat) (lack l : List Int) (v : Value),v93 = .int .i64 j ∧ A0_ (j + kq = ys.length + 1) ∧ A0_ (j ≤ ys.length) ∧ A0_ (OM w' w.heap.size bl ba lack rows above) ∧ A0_ (RS w' w.heap.size bl ba rb rows v l) ∧ A0_ (US w' w.heap.size bl rb rows v (.slice A3 (outl.length + 1) c3) (outl ++ [(x : Int)])) ∧ A0_ (Below w.heap.size w w') ∧ A0_ (P3 c.f8.length k3 ((K0 - (k3 + 1)) * 32768 + j) (lack,l)) ∧ A0_ ((ys.drop j).foldl dStep (lack,l) = MID3))
         case atStart => exact ⟨0,lack,l,_,rfl,⟨by omega⟩,⟨Nat.zero_le _⟩,HO3,HR3,HU3,HB3,HP5,⟨by rw [List.drop_zero];exact HMID.out⟩⟩
         case round =>
          clear HO3 HR3 HU3 HB3 HP5 HMID HNM HNN HMM
          obtain ⟨j,lack,l,v,rfl,HKJ,HJ,HO,HR,HU,HB,HP5,HMID⟩:=hrel
          by_cases cj : j < ys.length
          ·obtain ⟨k4,rfl⟩ : ∃ k4,gk = k4 + 1:=by
            cases gk with
            |zero => have:=HKJ.out;omega
            |succ k4 => exact ⟨k4,rfl⟩
           have cjb : decide ((j : Int) < (ys.length : Int)) = true:=decide_eq_true (by omega)
           have p0 : (0 ≤ (j : Int)) = True:=eq_true (by omega)
           have p1 : ((j : Int) < (ys.length : Int)) = True:=eq_true (by omega)
           have hw9 : IntKind.i64.wrap ((j : Int) + 1) = ((j + 1 : Nat) : Int):=by have:=HRLY.out.1;rw [IntKind.wrap_i64];omega
           have hOr:=HO.out.own x (by have:=HAL.out;have:=HXN.out;omega)
           rw [HYS.out,HEX.out] at hOr
           obtain ⟨A',c',e',_,hCv⟩:=Kd.R_reads hOr
           cases e'
           obtain ⟨ad,ea,hc⟩:=C_int_get hCv j cj
           have hyj:=HRLY.out.2 ys[j] (List.getElem_mem _)
           have hM:=HMID.out
           rw [List.drop_eq_getElem_cons cj,List.foldl_cons] at hM
           clear HMID hCv hOr
           generalize ys[j] = y at hyj hM hc
           obtain ⟨y,rfl⟩ : ∃ y' : Nat,y = (y' : Int):=⟨y.toNat,by omega⟩
           have hyl : y < lack.length:=by have h1:=HP5.out.ll;dsimp only at h1;omega
           have r0 : (0 ≤ (y : Int)) = True:=eq_true (by omega)
           have r1 : ((y : Int) < (c.f8.length : Int)) = True:=eq_true (by omega)
           have hd:=HP5.out.dec hyj
           obtain ⟨q,hq⟩ : ∃ q,lack.getD y 0 = q:=⟨_,rfl⟩
           have l0 : wr.cell? ⟨bl,y,none⟩ = some (.int .i64 q):=by
            rw [bC_ HO.out.hl y,← hq]
            simp [encI,hyl]
           have l1:=bF_ HO.out.hl y
           have lb:=HP5.out.lo (lack.getD y 0) (by rw [List.getD_eq_getElem?_getD,List.getElem?_eq_getElem hyl];exact List.getElem_mem _)
           rw [hq] at lb
           have lw : IntKind.i64.wrap (q - 1) = q - 1:=by have:=HK0.out;have:=HRLY.out.1;rw [IntKind.wrap_i64];omega
           rw [show dStep (lack,l) (y : Int) = (lack.set y (q - 1),if q - 1 = 0 then insF l (y : Int) else l) by simp only [dStep,Int.toNat_natCast,hq]] at hM hd
           have HO6:=A0_.mk (HO.out.setl y (q - 1))
           have HR6:=A0_.mk (HR.out.setL y (.int .i64 (q - 1)))
           have HU6:=A0_.mk (HU.out.setL y (.int .i64 (q - 1)))
           have HB6 : A0_ (Below w.heap.size w (wr.setCell ⟨bl,y,none⟩ (.int .i64 (q - 1)))):=⟨HB.out.trans (below_cells HBL.out [_] y (Below.refl _ _))⟩
           have HYL:=A0_.mk hyl
           have HYN:=A0_.mk hyj
           have hll:=HP5.out.me
           dsimp only at hll
           have hel:=HP5.out.el
           dsimp only at hel
           have HLLN : A0_ (l.length ≤ 1099511627776):=⟨by have:=HK0.out;have:=HKQ.out;omega⟩
           have HEL:=A0_.mk hel
           subst ea
           have HM:=A0_.mk hM
           have HD:=A0_.mk hd
           clear hM hd hq lb hyl HO HR HU HB hyj hll hel
           go_upto_region 31 with (fail)
           clear l0 l1 lw hc
           generalize wr.setCell ⟨bl,y,none⟩ (.int .i64 (q - 1)) = W6 at HO6 HR6 HU6 HB6 ⊢
           generalize q - 1 = q at HO6 HM HD ⊢
           have l0 : W6.cell? ⟨bl,y,none⟩ = some (.int .i64 q):=by
            rw [bC_ HO6.out.hl y]
            have:=HYL.out
            simp [encI,this]
           by_cases cq : q = 0
           ·subst cq
            have hM:=HM.out
            have hD:=HD.out
            rw [if_pos rfl] at hM hD
            have HM2:=A0_.mk hM
            have HD2:=A0_.mk hD
            have PC:=A0_.mk (push_calls HR6.out.hr HR6.out.own HRB.out (y : Int) (by have:=HN8.out;have:=HYN.out;omega) (fun z hz => by have:=HEL.out z hz;have:=HN8.out;omega) HLLN.out)
            clear hM hD HM HD
            go_wp2_with (first|((with_reducible refine gate_value (t:=108) rfl ?_);refine goesC_ (some 110) rfl rfl Tryz.func101 (by kernel_rfl) rfl #[.int .i64 (y : Int)] #[.pointer (some ⟨rb,0,none⟩)] #[.int .i64 (y : Int),.pointer (some ⟨rb,0,none⟩)] rfl rfl (by (try simp only [List.map_toArray,List.map_cons,List.map_nil]);first|done|rfl) rfl ?_;(with_reducible refine (PC.out).mono ?_);rintro e w4 ⟨rfl,v',hr4,ho4,hp4⟩;have HO7:=A0_.mk (HO6.out.push HR6.out hp4);have HR7:=A0_.mk (RS.push HO6.out HR6.out hp4 hr4 ho4);have HU7:=A0_.mk (US.push HO6.out HR6.out HU6.out hp4);have HB7 : A0_ (Below w.heap.size w w4):=⟨HB6.out.trans hp4.below⟩;clear hr4 ho4 hp4 PC;refine ⟨_,rfl,?_⟩)|go_in)
            repeat (go_quiet (fail);try go_wp2)
            go_roundg k4
            case measure => omega
            case rel => exact ⟨j + 1,_,_,v',rfl,⟨by have:=HKJ.out;omega⟩,⟨by omega⟩,HO7,HR7,HU7,HB7,HD2,HM2⟩
           ·have cqb : (q == 0) = false:=beq_eq_false_iff_ne.mpr cq
            have hM:=HM.out
            have hD:=HD.out
            rw [if_neg cq] at hM hD
            have HM2:=A0_.mk hM
            have HD2:=A0_.mk hD
            clear hM hD HM HD
            go_wp2
            repeat (go_quiet (fail);try go_wp2)
            go_roundg k4
            case measure => omega
            case rel => exact ⟨j + 1,_,_,v,rfl,⟨by have:=HKJ.out;omega⟩,⟨by omega⟩,HO6,HR6,HU6,HB6,HD2,HM2⟩
          ·have cjb : decide ((j : Int) < (ys.length : Int)) = false:=decide_eq_false (by omega)
           have hM:=HMID.out
           rw [List.drop_eq_nil_of_le (by omega),List.foldl_nil] at hM
           have hF:=HF6.out
           rw [← hM] at hF
           have HF7:=A0_.mk hF
           have HP7 : A0_ (P3 c.f8.length k3 ((K0 - k3) * 32768) (lack,l)):=⟨HP5.out.more (by have:=HRLY.out.1;have:=HJ.out;have:=HKQ.out;omega)⟩
           have HOL7 : A0_ ((outl ++ [(x : Int)]).length ≤ K0 - k3):=⟨by have:=HOL.out;have:=HKQ.out;rw [List.length_append,List.length_singleton];omega⟩
           clear hM hF HF6 HMID HP5
           go_wp2
           repeat (go_quiet (fail);try go_wp2)
           go_roundg k3
           case measure => omega
           case rel => exact ⟨lack,l,_,v,⟨by have:=HKQ.out;omega⟩,HO,HR,HU,HB,HP7,HOL7,HF7⟩
end Go.Proofs.YtdmngdohlobogaaGreatDoor.Asc

