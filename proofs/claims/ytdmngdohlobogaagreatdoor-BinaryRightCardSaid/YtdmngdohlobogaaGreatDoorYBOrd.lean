import Derived.Test.YtdmngdohlobogaaGreatDoorYSHOrder
namespace Go.Proofs.YtdmngdohlobogaaGreatDoor.Asc
open Go Go.RowKit
set_option linter.unusedVariables false
set_option linter.unusedSimpArgs false
theorem getD_lt {l : List Int} {j : Nat} (h : j < l.length) : l.getD j 0 = l[j]:=by rw [List.getD_eq_getElem?_getD,List.getElem?_eq_getElem h,Option.getD_some]
theorem bsGo_spec (l : List Int) (x : Int) (hd : ∀ i j,i ≤ j → j < l.length → l.getD j 0 ≤ l.getD i 0) : ∀ (k lo hi : Nat),lo ≤ hi → hi ≤ l.length → hi - lo ≤ k → (∀ j,j < lo → x < l.getD j 0) → (∀ j,hi ≤ j → j < l.length → l.getD j 0 ≤ x) →
  (∀ j,j < bsGo l x k lo hi → x < l.getD j 0) ∧ (∀ j,bsGo l x k lo hi ≤ j → j < l.length → l.getD j 0 ≤ x)
 |0,lo,hi,h1,h2,h3,h4,h5 => by
  rw [bsGo]
  exact ⟨h4,fun j hj => h5 j (by omega)⟩
 |k + 1,lo,hi,h1,h2,h3,h4,h5 => by
  rw [bsGo]
  split
  ·rename_i hlt
   split
   ·rename_i hx
    refine bsGo_spec l x hd k _ _ (by omega) h2 (by omega) (fun j hj => ?_) h5
    have:=hd j ((lo + hi) / 2) (by omega) (by omega)
    omega
   ·rename_i hx
    refine bsGo_spec l x hd k _ _ (by omega) (by omega) (by omega) h4 (fun j hj hl => ?_)
    have:=hd ((lo + hi) / 2) j (by omega) hl
    omega
  ·exact ⟨h4,fun j hj => h5 j (by omega)⟩
abbrev Desc (l : List Int) : Prop:=l.Pairwise (fun a b => b < a)
theorem Desc.get {l : List Int} (h : Desc l) (i j : Nat) (hij : i ≤ j) (hj : j < l.length) : l.getD j 0 ≤ l.getD i 0:=by
 rcases Nat.lt_or_ge i j with h1|h1
 ·have:=List.pairwise_iff_getElem.1 h i j (by omega) hj h1
  rw [getD_lt hj,getD_lt (by omega)]
  omega
 ·have : i = j:=by omega
  subst this
  exact Int.le_refl _
theorem insF_iff {l : List Int} {x y : Int} : y ∈ insF l x ↔ y = x ∨ y ∈ l:=by
 constructor
 ·exact insF_mem
 ·intro h
  have ht : l.take (bsF l x) ++ l.drop (bsF l x) = l:=List.take_append_drop _ _
  simp only [insF,List.mem_append,List.mem_cons]
  rcases h with h|h
  ·exact .inr (.inl h)
  ·rw [← ht,List.mem_append] at h
   rcases h with h|h
   ·exact .inl h
   ·exact .inr (.inr h)
theorem insF_desc {l : List Int} {x : Int} (h : Desc l) (hx : x ∉ l) : Desc (insF l x):=by
 obtain ⟨h1,h2⟩:=bsGo_spec l x h.get l.length 0 l.length (Nat.zero_le _) (Nat.le_refl _) (by omega) (fun j hj => by omega) (fun j hj hl => by omega)
 have hr : bsF l x = bsGo l x l.length 0 l.length:=rfl
 rw [← hr] at h1 h2
 have hle:=bsF_le l x
 unfold insF
 generalize bsF l x = r at h1 h2 hr hle ⊢
 have ht : Desc (l.take r ++ l.drop r):=by rw [List.take_append_drop];exact h
 obtain ⟨p1,p2,p3⟩:=List.pairwise_append.1 ht
 have hA : ∀ a ∈ l.take r,x < a:=by
  intro a ha
  obtain ⟨j,hj,rfl⟩:=List.mem_iff_getElem.1 ha
  rw [List.length_take] at hj
  have:=h1 j (by omega)
  rw [getD_lt (by omega)] at this
  rw [List.getElem_take]
  exact this
 have hB : ∀ a ∈ l.drop r,a < x:=by
  intro a ha
  have hm : a ∈ l:=List.mem_of_mem_drop ha
  obtain ⟨j,hj,rfl⟩:=List.mem_iff_getElem.1 ha
  rw [List.length_drop] at hj
  have:=h2 (r + j) (by omega) (by omega)
  rw [getD_lt (by omega)] at this
  rw [List.getElem_drop] at hm ⊢
  have hne : l[r + j] ≠ x:=fun he => hx (he ▸ hm)
  omega
 refine List.pairwise_append.2 ⟨p1,List.pairwise_cons.2 ⟨hB,p2⟩,?_⟩
 intro a ha b hb
 rcases List.mem_cons.1 hb with rfl|hb
 ·exact hA a ha
 ·exact p3 a ha b hb
theorem getD_set (l : List Int) (i j : Nat) (v : Int) (hi : i < l.length) : (l.set i v).getD j 0 = if j = i then v else l.getD j 0:=by
 rw [List.getD_eq_getElem?_getD,List.getD_eq_getElem?_getD,List.getElem?_set]
 by_cases h : i = j
 ·subst h
  simp [hi]
 ·rw [if_neg h,if_neg (Ne.symm h)]
theorem fold_d (n : Nat) : ∀ (ys lack l : List Int),lack.length = n → Desc l → (∀ i ∈ l,0 ≤ i ∧ lack.getD i.toNat 0 = 0) → (∀ y ∈ ys,0 ≤ y ∧ y < n) → (∀ i : Nat,(ys.count (i : Int) : Int) ≤ lack.getD i 0) →
  (ys.foldl dStep (lack,l)).1.length = n ∧ Desc (ys.foldl dStep (lack,l)).2 ∧ (∀ i : Nat,(ys.foldl dStep (lack,l)).1.getD i 0 = lack.getD i 0 - ys.count (i : Int)) ∧ (∀ i : Nat,(i : Int) ∈ (ys.foldl dStep (lack,l)).2 ↔ (i : Int) ∈ l ∨ ((ys.foldl dStep (lack,l)).1.getD i 0 = 0 ∧ 0 < ys.count (i : Int))) ∧ (∀ z ∈ (ys.foldl dStep (lack,l)).2,0 ≤ z)
 |[],lack,l,hl,hd,hz,hy,hc => ⟨hl,hd,fun i => by simp,fun i => by simp,fun z hz' => (hz z hz').1⟩
 |y :: ys,lack,l,hl,hd,hz,hy,hc => by
  obtain ⟨j,rfl⟩ : ∃ j : Nat,y = (j : Int):=⟨y.toNat,by have:=hy y List.mem_cons_self;omega⟩
  have hj : j < lack.length:=by have:=hy (j : Int) List.mem_cons_self;omega
  have hcj:=hc j
  rw [List.count_cons_self] at hcj
  have hnl : (j : Int) ∉ l:=fun hm => by
   have:=(hz _ hm).2
   rw [Int.toNat_natCast] at this
   omega
  have hg : ∀ i : Nat,(lack.set j (lack.getD j 0 - 1)).getD i 0 = if i = j then lack.getD j 0 - 1 else lack.getD i 0:=fun i => getD_set lack j i _ hj
  have hcc : ∀ i : Nat,((j : Int) :: ys).count (i : Int) = ys.count (i : Int) + if i = j then 1 else 0:=by
   intro i
   rw [List.count_cons]
   congr 1
   by_cases h : i = j
   ·subst h;simp
   ·rw [if_neg h,if_neg];simp;omega
  rw [List.foldl_cons]
  have hst : dStep (lack,l) (j : Int) = (lack.set j (lack.getD j 0 - 1),if lack.getD j 0 - 1 = 0 then insF l (j : Int) else l):=by
   simp only [dStep,Int.toNat_natCast]
  rw [hst]
  have hmem : ∀ i : Nat,(i : Int) ∈ (if lack.getD j 0 - 1 = 0 then insF l (j : Int) else l) ↔ ((i = j ∧ lack.getD j 0 - 1 = 0) ∨ (i : Int) ∈ l):=by
   intro i
   split
   ·rename_i h
    rw [insF_iff]
    constructor
    ·rintro (h1|h1)
     ·exact .inl ⟨by omega,h⟩
     ·exact .inr h1
    ·rintro (h1|h1)
     ·exact .inl (by omega)
     ·exact .inr h1
   ·rename_i h
    constructor
    ·exact .inr
    ·rintro (h1|h1)
     ·exact absurd h1.2 h
     ·exact h1
  have hnn : ∀ z ∈ (if lack.getD j 0 - 1 = 0 then insF l (j : Int) else l),0 ≤ z:=by
   intro z hz'
   split at hz'
   ·rcases insF_mem hz' with rfl|h
    ·omega
    ·exact (hz z h).1
   ·exact (hz z hz').1
  obtain ⟨r1,r2,r3,r4,r5⟩:=fold_d n ys (lack.set j (lack.getD j 0 - 1)) (if lack.getD j 0 - 1 = 0 then insF l (j : Int) else l) (by rw [List.length_set];exact hl)
   (by
    split
    ·exact insF_desc hd hnl
    ·exact hd)
   (by
    intro z hz'
    have h0:=hnn z hz'
    obtain ⟨i,rfl⟩ : ∃ i : Nat,z = (i : Int):=⟨z.toNat,by omega⟩
    refine ⟨h0,?_⟩
    rw [Int.toNat_natCast,hg]
    rcases (hmem i).1 hz' with h|h
    ·rw [if_pos h.1];exact h.2
    ·have hij : i ≠ j:=fun he => hnl (he ▸ h)
     rw [if_neg hij]
     have:=(hz _ h).2
     rwa [Int.toNat_natCast] at this)
   (fun y hy' => hy y (List.mem_cons_of_mem _ hy'))
   (by
    intro i
    rw [hg]
    have:=hc i
    rw [hcc] at this
    split
    ·rename_i h;subst h;simp at this;omega
    ·rename_i h;rw [if_neg h] at this;simpa using this)
  refine ⟨r1,r2,?_,?_,r5⟩
  ·intro i
   rw [r3,hg,hcc]
   split
   ·rename_i h;subst h;simp;omega
   ·rename_i h;simp
  ·intro i
   rw [r4,hmem,hcc,r3,hg]
   by_cases h : i = j
   ·subst h
    simp only [if_true,true_and]
    constructor
    ·rintro ((h1|h1)|h1)
     ·refine .inr ⟨?_,by omega⟩
      omega
     ·exact absurd h1 hnl
     ·exact .inr ⟨h1.1,by omega⟩
    ·rintro (h1|h1)
     ·exact absurd h1 hnl
     ·by_cases h2 : lack.getD i 0 - 1 = 0
      ·exact .inl (.inl h2)
      ·exact .inr ⟨h1.1,by omega⟩
   ·simp only [h,if_false,false_and,false_or,Nat.add_zero]
def depF (by_ : List S40) (ands : List S125) (i : Nat) : List Int:=match ands[i]? with
 |some x => belowF by_ x
 |none => []
theorem oStep_fold (i : Nat) : ∀ (xs : List Int) (st : St),i < st.1.length → (∀ x ∈ xs,0 ≤ x ∧ x < st.2.length) →
  (xs.foldl (oStep i) st).1.length = st.1.length ∧ (xs.foldl (oStep i) st).2.length = st.2.length ∧ (∀ j,(xs.foldl (oStep i) st).1.getD j 0 = st.1.getD j 0 + if j = i then (xs.length : Int) else 0) ∧ (∀ j x : Nat,((xs.foldl (oStep i) st).2.getD x []).count (j : Int) = (st.2.getD x []).count (j : Int) + if j = i then xs.count (x : Int) else 0)
 |[],st,hi,hx => ⟨rfl,rfl,fun j => by simp,fun j x => by simp⟩
 |y :: xs,st,hi,hx => by
  obtain ⟨v,rfl⟩ : ∃ v : Nat,y = (v : Int):=⟨y.toNat,by have:=hx y List.mem_cons_self;omega⟩
  have hv : v < st.2.length:=by have:=hx (v : Int) List.mem_cons_self;omega
  rw [List.foldl_cons]
  obtain ⟨r1,r2,r3,r4⟩:=oStep_fold i xs (oStep i st (v : Int)) (by simp [oStep];exact hi) (fun x hx' => by have:=hx x (List.mem_cons_of_mem _ hx');simpa [oStep] using this)
  refine ⟨r1.trans (by simp [oStep]),r2.trans (by simp [oStep]),?_,?_⟩
  ·intro j
   rw [r3]
   simp only [oStep]
   rw [getD_set _ _ _ _ hi,List.length_cons]
   split
   ·rename_i h;subst h;push_cast;omega
   ·omega
  ·intro j x
   rw [r4]
   have hcc : ((v : Int) :: xs).count (x : Int) = xs.count (x : Int) + if x = v then 1 else 0:=by
    rw [List.count_cons]
    congr 1
    by_cases h : x = v
    ·subst h;simp
    ·rw [if_neg h,if_neg];simp;omega
   rw [hcc]
   simp only [oStep,Int.toNat_natCast]
   rw [List.getD_eq_getElem?_getD,List.getElem?_set]
   by_cases h : v = x
   ·subst h
    simp only [if_true,hv,Option.getD_some,List.count_append,List.getD_eq_getElem?_getD]
    by_cases hij : j = i
    ·subst hij;simp;omega
    ·have : List.count (j : Int) [(i : Int)] = 0:=by rw [List.count_eq_zero];simp;omega
     simp [hij,this]
   ·rw [if_neg h,if_neg (Ne.symm h),Nat.add_zero,← List.getD_eq_getElem?_getD]
def NN (st : St) : Prop:=∀ x : Nat,∀ y ∈ st.2.getD x [],0 ≤ y
theorem oStep_nn (i : Nat) : ∀ (xs : List Int) (st : St),NN st → NN (xs.foldl (oStep i) st)
 |[],st,h => h
 |y :: xs,st,h => by
  rw [List.foldl_cons]
  refine oStep_nn i xs _ (fun x z hz => ?_)
  simp only [oStep] at hz
  rw [List.getD_eq_getElem?_getD,List.getElem?_set] at hz
  split at hz
  ·split at hz
   ·rw [Option.getD_some,List.mem_append] at hz
    rcases hz with hz|hz
    ·exact h _ z hz
    ·rw [List.mem_singleton] at hz;omega
   ·cases hz
  ·rw [← List.getD_eq_getElem?_getD] at hz
   exact h _ z hz
theorem oFrom_nn (by_ : List S40) : ∀ (xs : List S125) (i : Nat) (st : St),NN st → NN (oFrom by_ xs i st)
 |[],i,st,h => h
 |x :: xs,i,st,h => oFrom_nn by_ xs (i + 1) _ (oStep_nn i _ st h)
theorem oFrom_spec (by_ : List S40) (n : Nat) : ∀ (xs : List S125) (i0 : Nat) (st : St),st.1.length = n → st.2.length = n → i0 + xs.length ≤ n → (∀ (i : Nat) (x : S125),xs[i]? = some x → ∀ y ∈ belowF by_ x,0 ≤ y ∧ y < n) →
  (oFrom by_ xs i0 st).1.length = n ∧ (oFrom by_ xs i0 st).2.length = n ∧ (∀ j,(oFrom by_ xs i0 st).1.getD j 0 = st.1.getD j 0 + if i0 ≤ j then ((depF by_ xs (j - i0)).length : Int) else 0) ∧ (∀ j x : Nat,((oFrom by_ xs i0 st).2.getD x []).count (j : Int) = (st.2.getD x []).count (j : Int) + if i0 ≤ j then (depF by_ xs (j - i0)).count (x : Int) else 0)
 |[],i0,st,h1,h2,h3,h4 => ⟨h1,h2,fun j => by simp [oFrom,depF],fun j x => by simp [oFrom,depF]⟩
 |x :: xs,i0,st,h1,h2,h3,h4 => by
  rw [List.length_cons] at h3
  obtain ⟨r1,r2,r3,r4⟩:=oStep_fold i0 (belowF by_ x) st (by omega) (fun y hy => by have:=h4 0 x rfl y hy;omega)
  obtain ⟨q1,q2,q3,q4⟩:=oFrom_spec by_ n xs (i0 + 1) ((belowF by_ x).foldl (oStep i0) st) (by omega) (by omega) (by omega) (fun i x' hx' => h4 (i + 1) x' (by simpa using hx'))
  have hdep : ∀ j,i0 + 1 ≤ j → depF by_ (x :: xs) (j - i0) = depF by_ xs (j - (i0 + 1)):=by
   intro j hj
   obtain ⟨d,rfl⟩ : ∃ d,j = i0 + 1 + d:=⟨j - (i0 + 1),by omega⟩
   have e1 : i0 + 1 + d - i0 = d + 1:=by omega
   have e2 : i0 + 1 + d - (i0 + 1) = d:=by omega
   rw [e1,e2]
   simp [depF]
  have hdep0 : depF by_ (x :: xs) (i0 - i0) = belowF by_ x:=by rw [Nat.sub_self];rfl
  rw [oFrom]
  refine ⟨q1,q2,?_,?_⟩
  ·intro j
   rw [q3,r3]
   by_cases h : i0 + 1 ≤ j
   ·rw [if_pos h,if_neg (by omega),if_pos (by omega),hdep j h];omega
   ·rw [if_neg h]
    by_cases h' : j = i0
    ·subst h';rw [if_pos rfl,if_pos (Nat.le_refl _),hdep0];omega
    ·rw [if_neg h',if_neg (by omega)];omega
  ·intro j v
   rw [q4,r4]
   by_cases h : i0 + 1 ≤ j
   ·rw [if_pos h,if_neg (by omega),if_pos (by omega),hdep j h];omega
   ·rw [if_neg h]
    by_cases h' : j = i0
    ·subst h';rw [if_pos rfl,if_pos (Nat.le_refl _),hdep0];omega
    ·rw [if_neg h',if_neg (by omega)]
theorem oReady_spec : ∀ (qs : List Int) (i : Nat) (l : List Int),Desc l → (∀ z ∈ l,0 ≤ z ∧ z < i) →
  Desc (oReady qs i l) ∧ (∀ z ∈ oReady qs i l,0 ≤ z) ∧ (∀ j : Nat,(j : Int) ∈ oReady qs i l ↔ (j : Int) ∈ l ∨ (i ≤ j ∧ j < i + qs.length ∧ qs.getD (j - i) 0 = 0))
 |[],i,l,hd,hz => ⟨hd,fun z h => (hz z h).1,fun j => by
   rw [oReady]
   constructor
   ·exact .inl
   ·rintro (h|h)
    ·exact h
    ·simp at h;omega⟩
 |q :: qs,i,l,hd,hz => by
  rw [oReady]
  have hni : (i : Int) ∉ l:=fun h => by have:=hz _ h;omega
  obtain ⟨r1,r2,r3⟩:=oReady_spec qs (i + 1) (if q = 0 then insF l (i : Int) else l)
   (by
    split
    ·exact insF_desc hd hni
    ·exact hd)
   (by
    intro z h
    split at h
    ·rcases insF_mem h with rfl|h
     ·omega
     ·have:=hz z h;omega
    ·have:=hz z h;omega)
  refine ⟨r1,r2,fun j => ?_⟩
  rw [r3]
  have hm : (j : Int) ∈ (if q = 0 then insF l (i : Int) else l) ↔ (j = i ∧ q = 0) ∨ (j : Int) ∈ l:=by
   split
   ·rename_i h
    rw [insF_iff]
    constructor
    ·rintro (h1|h1)
     ·exact .inl ⟨by omega,h⟩
     ·exact .inr h1
    ·rintro (h1|h1)
     ·exact .inl (by omega)
     ·exact .inr h1
   ·rename_i h
    constructor
    ·exact .inr
    ·rintro (h1|h1)
     ·exact absurd h1.2 h
     ·exact h1
  rw [hm,List.length_cons]
  by_cases hj : j = i
  ·subst hj
   simp only [true_and,Nat.sub_self,List.getD_cons_zero]
   constructor
   ·rintro ((h|h)|h)
    ·exact .inr ⟨Nat.le_refl _,by omega,h⟩
    ·exact absurd h hni
    ·omega
   ·rintro (h|h)
    ·exact absurd h hni
    ·exact .inl (.inl h.2.2)
  ·by_cases hji : i + 1 ≤ j
   ·obtain ⟨d,rfl⟩ : ∃ d,j = i + 1 + d:=⟨j - (i + 1),by omega⟩
    have e1 : i + 1 + d - i = d + 1:=by omega
    have e2 : i + 1 + d - (i + 1) = d:=by omega
    rw [e1,e2,List.getD_cons_succ]
    constructor
    ·rintro ((h|h)|h)
     ·omega
     ·exact .inl h
     ·exact .inr ⟨by omega,by omega,h.2.2⟩
    ·rintro (h|h)
     ·exact .inl (.inr h)
     ·exact .inr ⟨by omega,by omega,h.2.2⟩
   ·constructor
    ·rintro ((h|h)|h)
     ·omega
     ·exact .inl h
     ·omega
    ·rintro (h|h)
     ·exact .inl (.inr h)
     ·omega
theorem oReady_many : ∀ (qs : List Int) (i : Nat) (l : List Int),(∀ q ∈ qs,0 ≤ q) → qs.length + l.length ≤ (oReady qs i l).length + tot qs
 |[],i,l,h => by simp [oReady]
 |q :: qs,i,l,h => by
  rw [oReady]
  have h1:=oReady_many qs (i + 1) (if q = 0 then insF l (i : Int) else l) (fun q' hq => h q' (List.mem_cons_of_mem _ hq))
  have h2:=h q List.mem_cons_self
  simp only [tot,List.map_cons,List.sum_cons,List.length_cons] at h1 ⊢
  by_cases h0 : q = 0
  ·subst h0
   rw [if_pos rfl,insF_len] at h1
   simp only [if_true]
   omega
  ·rw [if_neg h0] at h1 ⊢
   omega
theorem count_le_countP {l : List Int} {k : Nat} : (l.count (k : Int)) + l.countP (fun y => decide ((k : Int) + 1 ≤ y)) = l.countP (fun y => decide ((k : Int) ≤ y)):=by
 induction l with
 |nil => rfl
 |cons a l ih =>
  rw [List.count_cons,List.countP_cons,List.countP_cons]
  by_cases h : a = (k : Int)
  ·subst h
   have e1 : decide ((k : Int) + 1 ≤ (k : Int)) = false:=by simp;omega
   have e2 : decide ((k : Int) ≤ (k : Int)) = true:=by simp
   simp only [beq_self_eq_true,if_true,e1,e2,Bool.false_eq_true,if_false]
   omega
  ·have h1 : (a == (k : Int)) = false:=by simpa using h
   by_cases h2 : (k : Int) ≤ a
   ·have e1 : decide ((k : Int) + 1 ≤ a) = true:=by simp;omega
    have e2 : decide ((k : Int) ≤ a) = true:=by simpa using h2
    simp only [h1,e1,e2,if_true,Bool.false_eq_true,if_false]
    omega
   ·have e1 : decide ((k : Int) + 1 ≤ a) = false:=by simp;omega
    have e2 : decide ((k : Int) ≤ a) = false:=by simpa using h2
    simp only [h1,e1,e2,if_true,Bool.false_eq_true,if_false]
    omega
theorem oLoop_id (dep : Nat → List Int) (n : Nat) (above : List (List Int)) (hdep : ∀ i,∀ y ∈ dep i,0 ≤ y ∧ y < i ∧ i < n) (hab : ∀ j x : Nat,(above.getD x []).count (j : Int) = (dep j).count (x : Int)) (hin : ∀ x : Nat,∀ y ∈ above.getD x [],0 ≤ y ∧ y < n) :
  ∀ (m k fuel : Nat) (lack l out : List Int),k + m = n → m ≤ fuel → lack.length = n → Desc l → (∀ z ∈ l,0 ≤ z) → (∀ i : Nat,(i : Int) ∈ l ↔ k ≤ i ∧ i < n ∧ lack.getD i 0 = 0) → (∀ i : Nat,i < n → lack.getD i 0 = ((dep i).countP (fun y => decide ((k : Int) ≤ y)) : Int)) →
   oLoop above fuel lack l out = out ++ (List.range' k m).map (fun i : Nat => (i : Int))
 |0,k,fuel,lack,l,out,h1,h2,h3,h4,h5,h6,h7 => by
  have : l = []:=by
   rcases l with _|⟨z,l⟩
   ·rfl
   ·have h0:=h5 z List.mem_cons_self
    obtain ⟨i,rfl⟩ : ∃ i : Nat,z = (i : Int):=⟨z.toNat,by omega⟩
    have:=(h6 i).1 List.mem_cons_self
    omega
  subst this
  rw [oLoop_nil]
  simp
 |m + 1,k,0,lack,l,out,h1,h2,h3,h4,h5,h6,h7 => by omega
 |m + 1,k,fuel + 1,lack,l,out,h1,h2,h3,h4,h5,h6,h7 => by
  have hk0 : lack.getD k 0 = 0:=by
   rw [h7 k (by omega)]
   have : (dep k).countP (fun y => decide ((k : Int) ≤ y)) = 0:=by
    rw [List.countP_eq_zero]
    intro y hy
    have:=hdep k y hy
    simp
    omega
   omega
  have hkl : (k : Int) ∈ l:=(h6 k).2 ⟨Nat.le_refl _,by omega,hk0⟩
  obtain ⟨l',x,rfl⟩ : ∃ l' x,l = l' ++ [x]:=⟨l.dropLast,l.getLast (List.ne_nil_of_mem hkl),(List.dropLast_concat_getLast _).symm⟩
  have hxk : x = (k : Int):=by
   have hx0:=h5 x (by simp)
   obtain ⟨i,rfl⟩ : ∃ i : Nat,x = (i : Int):=⟨x.toNat,by omega⟩
   have hx:=(h6 i).1 (by simp)
   rcases List.mem_append.1 hkl with h|h
   ·have:=(List.pairwise_append.1 h4).2.2 _ h _ (List.mem_singleton_self _)
    omega
   ·exact (List.mem_singleton.1 h).symm
  subst hxk
  rw [oLoop_snoc,Int.toNat_natCast]
  have h4':=List.pairwise_append.1 h4
  have hkn : (k : Int) ∉ l':=fun h => by
   have:=h4'.2.2 _ h _ (List.mem_singleton_self _)
   omega
  have hcnt : ∀ i : Nat,((above.getD k []).count (i : Int) : Int) ≤ lack.getD i 0:=by
   intro i
   rw [hab]
   by_cases hi : i < n
   ·rw [h7 i hi]
    have:=count_le_countP (l:=dep i) (k:=k)
    omega
   ·have : dep i = []:=by
     rcases hd : dep i with _|⟨y,t⟩
     ·rfl
     ·have:=hdep i y (by rw [hd];exact List.mem_cons_self)
      omega
    rw [this]
    rw [List.getD_eq_getElem?_getD,List.getElem?_eq_none (by omega)]
    simp
  obtain ⟨r1,r2,r3,r4,r5⟩:=fold_d n (above.getD k []) lack l' h3 h4'.1 (by
   intro z hz
   have h0:=h5 z (List.mem_append_left _ hz)
   obtain ⟨i,rfl⟩ : ∃ i : Nat,z = (i : Int):=⟨z.toNat,by omega⟩
   rw [Int.toNat_natCast]
   exact ⟨h0,((h6 i).1 (List.mem_append_left _ hz)).2.2⟩) (hin k) hcnt
  rw [oLoop_id dep n above hdep hab hin m (k + 1) fuel _ _ _ (by omega) (by omega) r1 r2 r5 ?_ ?_]
  ·rw [List.range'_succ]
   simp
  ·intro i
   rw [r4,r3,hab]
   have hi' : (i : Int) ∈ l' ↔ k + 1 ≤ i ∧ i < n ∧ lack.getD i 0 = 0:=by
    constructor
    ·intro h
     have h1:=(h6 i).1 (List.mem_append_left _ h)
     have : i ≠ k:=fun he => hkn (he ▸ h)
     omega
    ·intro h
     have:=(h6 i).2 ⟨by omega,h.2⟩
     rcases List.mem_append.1 this with h'|h'
     ·exact h'
     ·have:=List.mem_singleton.1 h'
      omega
   rw [hi']
   have hc:=hcnt i
   rw [hab] at hc
   constructor
   ·rintro (h|h)
    ·refine ⟨h.1,h.2.1,?_⟩
     omega
    ·have hm : (k : Int) ∈ dep i:=List.count_pos_iff.1 h.2
     have:=hdep i _ hm
     exact ⟨by omega,by omega,h.1⟩
   ·intro h
    by_cases h0 : (dep i).count (k : Int) = 0
    ·refine .inl ⟨h.1,h.2.1,?_⟩
     have:=h.2.2
     omega
    ·exact .inr ⟨h.2.2,by omega⟩
  ·intro i hi
   rw [r3,h7 i hi,hab]
   have:=count_le_countP (l:=dep i) (k:=k)
   push_cast
   omega
theorem order_id {by_ : List S40} {ands : List S125} (h : ∀ (i : Nat) (x : S125),ands[i]? = some x → ∀ y ∈ belowF by_ x,0 ≤ y ∧ y < i) : orderF by_ ands = (List.range ands.length).map (fun i : Nat => (i : Int)):=by
 have hlt : ∀ (i : Nat) (x : S125),ands[i]? = some x → i < ands.length:=fun i x hx => (List.getElem?_eq_some_iff.1 hx).1
 have hdep : ∀ i,∀ y ∈ depF by_ ands i,0 ≤ y ∧ y < i ∧ i < ands.length:=by
  intro i y hy
  unfold depF at hy
  split at hy
  ·rename_i x hx
   have:=h i x hx y hy
   exact ⟨this.1,this.2,hlt i x hx⟩
  ·cases hy
 obtain ⟨q1,q2,q3,q4⟩:=oFrom_spec by_ ands.length ands 0 (List.replicate ands.length 0,List.replicate ands.length []) (by simp) (by simp) (by omega) (fun i x hx y hy => by have:=h i x hx y hy;have:=hlt i x hx;omega)
 have q5 : NN (oFrom by_ ands 0 (List.replicate ands.length 0,List.replicate ands.length [])):=oFrom_nn by_ ands 0 _ (fun x y hy => by
  rw [List.getD_eq_getElem?_getD,List.getElem?_replicate] at hy
  split at hy <;> cases hy)
 unfold orderF
 generalize oFrom by_ ands 0 (List.replicate ands.length 0,List.replicate ands.length []) = F at q1 q2 q3 q4 q5
 obtain ⟨lack,above⟩:=F
 dsimp only at q1 q2 q3 q4 ⊢
 have g0 : ∀ j,(List.replicate ands.length (0 : Int)).getD j 0 = 0:=by
  intro j
  rw [List.getD_eq_getElem?_getD,List.getElem?_replicate]
  split <;> rfl
 have g1 : ∀ j,(List.replicate ands.length ([] : List Int)).getD j [] = []:=by
  intro j
  rw [List.getD_eq_getElem?_getD,List.getElem?_replicate]
  split <;> rfl
 have hlack : ∀ j,lack.getD j 0 = ((depF by_ ands j).length : Int):=by
  intro j
  rw [q3,g0,if_pos (Nat.zero_le _),Nat.sub_zero]
  omega
 have hab : ∀ j x : Nat,(above.getD x []).count (j : Int) = (depF by_ ands j).count (x : Int):=by
  intro j x
  rw [q4,g1,if_pos (Nat.zero_le _),Nat.sub_zero]
  simp
 have hnn : ∀ q ∈ lack,0 ≤ q:=by
  intro q hq
  obtain ⟨j,hj,rfl⟩:=List.mem_iff_getElem.1 hq
  have:=hlack j
  rw [getD_lt hj] at this
  omega
 obtain ⟨r1,r2,r3⟩:=oReady_spec lack 0 [] List.Pairwise.nil (fun z hz => by cases hz)
 have hm:=oReady_many lack 0 [] hnn
 rw [oLoop_id (depF by_ ands) ands.length above hdep hab ?_ ands.length 0 _ lack (oReady lack 0 []) [] (by omega) (by simp at hm;omega) q1 r1 r2 ?_ ?_]
 ·rw [List.nil_append,List.range_eq_range']
 ·intro x y hy
  have h0:=q5 x y hy
  obtain ⟨j,rfl⟩ : ∃ j : Nat,y = (j : Int):=⟨y.toNat,by omega⟩
  have h1:=List.count_pos_iff.2 hy
  have h2 : 0 < ((above.getD x []).count (j : Int)):=h1
  rw [hab] at h2
  have:=hdep j _ (List.count_pos_iff.1 h2)
  exact ⟨h0,by omega⟩
 ·intro i
  rw [r3]
  simp only [List.not_mem_nil,false_or,Nat.zero_le,true_and,Nat.zero_add,Nat.sub_zero,q1]
 ·intro i hi
  rw [hlack]
  have : (depF by_ ands i).countP (fun y => decide (((0 : Nat) : Int) ≤ y)) = (depF by_ ands i).length:=by
   rw [List.countP_eq_length]
   intro y hy
   have:=hdep i y hy
   simp
   omega
  omega
end Go.Proofs.YtdmngdohlobogaaGreatDoor.Asc

