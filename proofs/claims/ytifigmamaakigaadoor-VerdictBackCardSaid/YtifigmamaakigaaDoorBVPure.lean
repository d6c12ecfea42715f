import Derived.Shelf.GgClosure.StringsIndexFunc
import Derived.Test.YtifigmamaakigaaDoorProg
namespace Go.Proofs.YtifigmamaakigaaDoor.V
set_option linter.unusedVariables false
set_option linter.unusedSimpArgs false
structure RW where
  f0 : Int
  f1 : Int
  f2 : ByteArray
  f3 : Int
  f4 : Int
abbrev RW.key (r : RW) : Int × Int:=(r.f0,r.f1)
def kLt (a b : Int × Int) : Prop:=a.1 < b.1 ∨ (a.1 = b.1 ∧ a.2 < b.2)
instance (a b : Int × Int) : Decidable (kLt a b):=inferInstanceAs (Decidable (_ ∨ _))
theorem kLt.irrefl (a : Int × Int) : ¬ kLt a a:=fun h => by unfold kLt at h;omega
theorem kLt.trans {a b c : Int × Int} (h : kLt a b) (g : kLt b c) : kLt a c:=by unfold kLt at *;omega
theorem kLt.tri {a b : Int × Int} (h : ¬ kLt a b) (g : a ≠ b) : kLt b a:=by
  unfold kLt at *
  have : ¬ (a.1 = b.1 ∧ a.2 = b.2):=fun e => g (Prod.ext e.1 e.2)
  omega
def moreR (r b : RW) : Prop:=b.f3 = 0 ∧ (r.f3 ≠ 0 ∨ r.f4 > b.f4)
instance (r b : RW) : Decidable (moreR r b):=inferInstanceAs (Decidable (_ ∧ _))
def clash (r b : RW) : Prop:=r.f3 ≠ 0 ∧ b.f3 ≠ 0 ∧ r.f3 ≠ b.f3
instance (r b : RW) : Decidable (clash r b):=inferInstanceAs (Decidable (_ ∧ _))
def updR (r b : RW) : RW:=if moreR r b then r else b
def insR : List RW → RW → Option (List RW)
  | [],r => some [r]
  | b :: m,r => if kLt b.key r.key then (insR m r).map (b :: ·) else if b.key = r.key then (if clash r b then none else some (updR r b :: m)) else some (r :: b :: m)
def addR : List RW → List RW → Option (List RW)
  | m,[] => some m
  | m,r :: l => (insR m r).bind fun m' => addR m' l
def find (k : Int × Int) (m : List RW) : Option RW:=m.find? (fun r => decide (r.key = k))
abbrev Asc (m : List RW) : Prop:=m.Pairwise (fun a b => kLt a.key b.key)
theorem find_cons (k : Int × Int) (b : RW) (m : List RW) : find k (b :: m) = if b.key = k then some b else find k m:=by
  unfold find
  rw [List.find?_cons]
  split <;> rename_i h
  · rw [if_pos (by simpa using h)]
  · rw [if_neg (by simpa using h)]
theorem find_key {k : Int × Int} {m : List RW} {r : RW} (h : find k m = some r) : r.key = k ∧ r ∈ m:=by
  unfold find at h
  have:=List.find?_some h
  exact ⟨by simpa using this,List.mem_of_find?_eq_some h⟩
theorem find_none {k : Int × Int} {m : List RW} (h : ∀ r ∈ m,r.key ≠ k) : find k m = none:=by
  unfold find
  rw [List.find?_eq_none]
  intro r hr
  simpa using h r hr
theorem find_mem {m : List RW} (hs : Asc m) {r : RW} (h : r ∈ m) : find r.key m = some r:=by
  induction m with
  | nil => cases h
  | cons b m ih =>
    obtain ⟨h1,h2⟩:=List.pairwise_cons.1 hs
    rw [find_cons]
    rcases List.mem_cons.1 h with rfl|h
    · rw [if_pos rfl]
    · have:=h1 r h
      rw [if_neg (fun e => by rw [e] at this;exact kLt.irrefl _ this),ih h2 h]
theorem sort_ext : ∀ {m n : List RW},Asc m → Asc n → (∀ k,find k m = find k n) → m = n
  | [],[],_,_,_ => rfl
  | [],b :: n,_,_,h => by have:=h b.key;rw [find_cons,if_pos rfl] at this;cases this
  | a :: m,[],_,_,h => by have:=h a.key;rw [find_cons,if_pos rfl] at this;cases this
  | a :: m,b :: n,h1,h2,h => by
    obtain ⟨p1,p2⟩:=List.pairwise_cons.1 h1
    obtain ⟨q1,q2⟩:=List.pairwise_cons.1 h2
    have hk : a.key = b.key:=by
      apply Classical.byContradiction
      intro hne
      by_cases hlt : kLt a.key b.key
      · have:=h a.key
        rw [find_cons,if_pos rfl,find_cons,if_neg (fun e => hne e.symm)] at this
        obtain ⟨e1,e2⟩:=find_key this.symm
        have:=q1 a e2
        exact kLt.irrefl _ (hlt.trans this)
      · have hlt:=kLt.tri hlt hne
        have:=h b.key
        rw [find_cons,if_neg hne,find_cons,if_pos rfl] at this
        obtain ⟨e1,e2⟩:=find_key this
        have:=p1 b e2
        exact kLt.irrefl _ (hlt.trans this)
    have hab : a = b:=by
      have:=h a.key
      rw [find_cons,if_pos rfl,find_cons,if_pos hk.symm] at this
      injection this
    subst hab
    congr 1
    refine sort_ext p2 q2 (fun k => ?_)
    have:=h k
    rw [find_cons,find_cons] at this
    by_cases e : a.key = k
    · subst e
      rw [find_none (fun r hr e => by have:=p1 r hr;rw [e] at this;exact kLt.irrefl _ this),find_none (fun r hr e => by have:=q1 r hr;rw [e] at this;exact kLt.irrefl _ this)]
    · rwa [if_neg e,if_neg e] at this
def upd1 (o : Option RW) (r : RW) : RW:=match o with
  | none => r
  | some b => updR r b
theorem updR_key {r b : RW} (h : b.key = r.key) : (updR r b).key = r.key:=by
  unfold updR
  split
  · rfl
  · exact h
theorem insR_keys : ∀ {m m' : List RW} {r : RW},insR m r = some m' → ∀ x ∈ m',x.key = r.key ∨ ∃ y ∈ m,y.key = x.key
  | [],m',r,h,x,hx => by
    injection h with h
    subst h
    rw [List.mem_singleton] at hx
    subst hx
    exact .inl rfl
  | b :: m,m',r,h,x,hx => by
    rw [insR] at h
    split at h
    · obtain ⟨m1,h1,rfl⟩:=Option.map_eq_some_iff.1 h
      rcases List.mem_cons.1 hx with rfl|hx
      · exact .inr ⟨x,List.mem_cons_self,rfl⟩
      · rcases insR_keys h1 x hx with h2|⟨y,hy,e⟩
        · exact .inl h2
        · exact .inr ⟨y,List.mem_cons_of_mem _ hy,e⟩
    · split at h
      · rename_i hk
        split at h
        · cases h
        · injection h with h
          subst h
          rcases List.mem_cons.1 hx with rfl|hx
          · exact .inl (updR_key hk)
          · exact .inr ⟨x,List.mem_cons_of_mem _ hx,rfl⟩
      · injection h with h
        subst h
        rcases List.mem_cons.1 hx with rfl|hx
        · exact .inl rfl
        · exact .inr ⟨x,hx,rfl⟩
theorem insR_spec : ∀ {m m' : List RW} {r : RW},Asc m → insR m r = some m' → Asc m' ∧ (∀ b,find r.key m = some b → ¬ clash r b) ∧ ∀ k,find k m' = if k = r.key then some (upd1 (find r.key m) r) else find k m
  | [],m',r,hs,h => by
    injection h with h
    subst h
    refine ⟨List.pairwise_singleton _ _,fun b hb => (by cases hb),fun k => ?_⟩
    rw [find_cons]
    by_cases e : k = r.key
    · subst e;rw [if_pos rfl,if_pos rfl];rfl
    · rw [if_neg (fun x => e x.symm),if_neg e]
  | b :: m,m',r,hs,h => by
    obtain ⟨p1,p2⟩:=List.pairwise_cons.1 hs
    rw [insR] at h
    split at h
    · rename_i hlt
      obtain ⟨m1,h1,rfl⟩:=Option.map_eq_some_iff.1 h
      obtain ⟨q1,q2,q3⟩:=insR_spec p2 h1
      have hne : b.key ≠ r.key:=fun e => by rw [e] at hlt;exact kLt.irrefl _ hlt
      refine ⟨List.pairwise_cons.2 ⟨fun x hx => ?_,q1⟩,?_,fun k => ?_⟩
      · rcases insR_keys h1 x hx with e|⟨y,hy,e⟩
        · rw [e];exact hlt
        · rw [← e];exact p1 y hy
      · intro x hx
        rw [find_cons,if_neg hne] at hx
        exact q2 x hx
      · rw [find_cons,q3,find_cons,find_cons,if_neg hne]
        by_cases e : k = r.key
        · subst e
          rw [if_neg hne,if_pos rfl,if_pos rfl]
        · rw [if_neg e,if_neg e]
    · rename_i hlt
      split at h
      · rename_i hk
        split at h
        · cases h
        · rename_i hc
          injection h with h
          subst h
          refine ⟨List.pairwise_cons.2 ⟨fun x hx => by rw [updR_key hk,← hk];exact p1 x hx,p2⟩,?_,fun k => ?_⟩
          · intro x hx
            rw [find_cons,if_pos hk] at hx
            injection hx with hx
            subst hx
            exact hc
          · rw [find_cons,updR_key hk,find_cons,find_cons,if_pos hk]
            by_cases e : k = r.key
            · subst e;rw [if_pos rfl,if_pos rfl];rfl
            · rw [if_neg (fun x => e x.symm),if_neg e,if_neg (fun x => e (x.symm.trans hk))]
      · rename_i hk
        injection h with h
        subst h
        have hlt:=kLt.tri hlt hk
        have hno : find r.key (b :: m) = none:=find_none (fun x hx e => by
          rcases List.mem_cons.1 hx with rfl|hx
          · exact hk e
          · have:=p1 x hx
            rw [e] at this
            exact kLt.irrefl _ (hlt.trans this))
        refine ⟨List.pairwise_cons.2 ⟨fun x hx => ?_,hs⟩,fun x hx => (by rw [hno] at hx;cases hx),fun k => ?_⟩
        · rcases List.mem_cons.1 hx with rfl|hx
          · exact hlt
          · exact hlt.trans (p1 x hx)
        · rw [find_cons,hno]
          by_cases e : k = r.key
          · subst e;rw [if_pos rfl,if_pos rfl];rfl
          · rw [if_neg (fun x => e x.symm),if_neg e]
theorem insR_some : ∀ {m : List RW} {r : RW},Asc m → (∀ b,find r.key m = some b → ¬ clash r b) → ∃ m',insR m r = some m'
  | [],r,hs,h => ⟨_,rfl⟩
  | b :: m,r,hs,h => by
    obtain ⟨p1,p2⟩:=List.pairwise_cons.1 hs
    rw [insR]
    split
    · rename_i hlt
      have hne : b.key ≠ r.key:=fun e => by rw [e] at hlt;exact kLt.irrefl _ hlt
      obtain ⟨m',h'⟩:=insR_some p2 (fun x hx => h x (by rw [find_cons,if_neg hne];exact hx))
      exact ⟨_,by rw [h'];rfl⟩
    · split
      · rename_i hk
        rw [if_neg (h b (by rw [find_cons,if_pos hk]))]
        exact ⟨_,rfl⟩
      · exact ⟨_,rfl⟩
def best : Option RW → List RW → Option (Option RW)
  | o,[] => some o
  | none,r :: l => best (some r) l
  | some b,r :: l => if clash r b then none else best (some (updR r b)) l
abbrev ofKey (k : Int × Int) (l : List RW) : List RW:=l.filter (fun r => decide (r.key = k))
theorem addR_spec : ∀ {l m m' : List RW},Asc m → addR m l = some m' → Asc m' ∧ ∀ k,best (find k m) (ofKey k l) = some (find k m')
  | [],m,m',hs,h => by
    injection h with h
    subst h
    exact ⟨hs,fun k => by cases find k m <;> rfl⟩
  | r :: l,m,m',hs,h => by
    rw [addR] at h
    obtain ⟨m1,h1,h2⟩:=Option.bind_eq_some_iff.1 h
    obtain ⟨q1,q2,q3⟩:=insR_spec hs h1
    obtain ⟨r1,r2⟩:=addR_spec q1 h2
    refine ⟨r1,fun k => ?_⟩
    have hk:=r2 k
    rw [q3] at hk
    by_cases e : r.key = k
    · subst e
      rw [if_pos rfl] at hk
      have hf : ofKey r.key (r :: l) = r :: ofKey r.key l:=by simp [ofKey]
      rw [hf]
      cases hm : find r.key m with
      | none => rw [hm] at hk;exact hk
      | some b =>
        rw [hm] at hk
        rw [best,if_neg (q2 b hm)]
        exact hk
    · rw [if_neg (fun x => e x.symm)] at hk
      have hf : ofKey k (r :: l) = ofKey k l:=by simp [ofKey,e]
      rw [hf]
      exact hk
def OneKind (l : List RW) : Prop:=∀ a ∈ l,∀ b ∈ l,a.f3 ≠ 0 → b.f3 ≠ 0 → a.f3 = b.f3
structure Best (l : List RW) (b : RW) : Prop where
  mem : b ∈ l
  kn : b.f3 = 0 → ∀ a ∈ l,a.f3 = 0 ∧ a.f4 ≤ b.f4
theorem best_spec : ∀ (l : List RW) (p : List RW) (b : RW),Best p b → OneKind p → (best (some b) l ≠ none ↔ OneKind (p ++ l)) ∧ ∀ o,best (some b) l = some o → ∃ c,o = some c ∧ Best (p ++ l) c
  | [],p,b,hb,hp => by
    rw [List.append_nil]
    exact ⟨⟨fun _ => hp,fun _ h => by cases h⟩,fun o h => by injection h with h;subst h;exact ⟨b,rfl,hb⟩⟩
  | r :: l,p,b,hb,hp => by
    rw [best]
    have hpl : p ++ r :: l = (p ++ [r]) ++ l:=by simp
    by_cases hc : clash r b
    · rw [if_pos hc]
      refine ⟨⟨fun h => absurd rfl h,fun h => ?_⟩,fun o h => by cases h⟩
      have:=h r (by simp) b (List.mem_append_left _ hb.mem) hc.1 hc.2.1
      exact absurd this hc.2.2
    · rw [if_neg hc,hpl]
      have h1 : Best (p ++ [r]) (updR r b):=by
        unfold updR
        split
        · rename_i hm
          refine ⟨by simp,fun h0 a ha => ?_⟩
          rcases List.mem_append.1 ha with ha|ha
          · obtain ⟨k1,k2⟩:=hb.kn hm.1 a ha
            have:=hm.2
            exact ⟨k1,by omega⟩
          · rw [List.mem_singleton] at ha
            subst ha
            exact ⟨h0,Int.le_refl _⟩
        · rename_i hm
          refine ⟨List.mem_append_left _ hb.mem,fun h0 a ha => ?_⟩
          rcases List.mem_append.1 ha with ha|ha
          · exact hb.kn h0 a ha
          · rw [List.mem_singleton] at ha
            subst ha
            unfold moreR at hm
            omega
      have h2 : OneKind (p ++ [r]):=by
        intro x hx y hy hx0 hy0
        have key : ∀ z ∈ p,z.f3 ≠ 0 → r.f3 ≠ 0 → z.f3 = r.f3:=by
          intro z hz hz0 hr0
          have hb0 : b.f3 ≠ 0:=fun e => hz0 (hb.kn e z hz).1
          have:=hp z hz b hb.mem hz0 hb0
          unfold clash at hc
          omega
        rcases List.mem_append.1 hx with hx|hx <;> rcases List.mem_append.1 hy with hy|hy
        · exact hp x hx y hy hx0 hy0
        · have hy:=List.mem_singleton.1 hy;rw [hy] at hy0 ⊢;exact key x hx hx0 hy0
        · have hx:=List.mem_singleton.1 hx;rw [hx] at hx0 ⊢;exact (key y hy hy0 hx0).symm
        · rw [List.mem_singleton] at hx hy;subst hx;subst hy;rfl
      exact best_spec l (p ++ [r]) (updR r b) h1 h2
theorem best_one (l : List RW) : (best none l ≠ none ↔ OneKind l) ∧ ∀ o,best none l = some o → (l = [] ∧ o = none) ∨ ∃ c,o = some c ∧ Best l c:=by
  rcases l with _|⟨r,l⟩
  · exact ⟨⟨fun _ a ha => (by cases ha),fun _ h => (by cases h)⟩,fun o h => (by injection h with h;subst h;exact .inl ⟨rfl,rfl⟩)⟩
  · rw [best]
    have h1 : Best [r] r:=⟨by simp,fun h a ha => by rw [List.mem_singleton] at ha;subst ha;exact ⟨h,Int.le_refl _⟩⟩
    have h2 : OneKind [r]:=fun a ha b hb _ _ => by rw [List.mem_singleton] at ha hb;subst ha;subst hb;rfl
    obtain ⟨q1,q2⟩:=best_spec l [r] r h1 h2
    exact ⟨q1,fun o h => .inr (q2 o h)⟩
def mergeR (l : List RW) : Option (List RW):=addR [] l
theorem mergeR_spec {l m : List RW} (h : mergeR l = some m) : Asc m ∧ ∀ k,best none (ofKey k l) = some (find k m):=addR_spec List.Pairwise.nil h
theorem find_of_merge {l m : List RW} (h : mergeR l = some m) (k : Int × Int) : (ofKey k l = [] ∧ find k m = none) ∨ ∃ c,find k m = some c ∧ Best (ofKey k l) c:=(best_one _).2 _ ((mergeR_spec h).2 k)
theorem merge_mem {l m : List RW} (h : mergeR l = some m) : ∀ r ∈ m,r ∈ l:=by
  intro r hr
  have h1:=find_mem (mergeR_spec h).1 hr
  rcases find_of_merge h r.key with ⟨_,e⟩|⟨c,e1,e2⟩
  · rw [h1] at e;cases e
  · rw [h1] at e1
    injection e1 with e1
    subst e1
    exact (List.mem_filter.1 e2.mem).1
theorem insR_length : ∀ {m m' : List RW} {r : RW},insR m r = some m' → m'.length ≤ m.length + 1
  | [],m',r,h => by injection h with h;subst h;simp
  | b :: m,m',r,h => by
    rw [insR] at h
    split at h
    · obtain ⟨m1,h1,rfl⟩:=Option.map_eq_some_iff.1 h
      have:=insR_length h1
      simp
      omega
    · split at h
      · split at h
        · cases h
        · injection h with h;subst h;simp
      · injection h with h;subst h;simp
theorem addR_length : ∀ {l m m' : List RW},addR m l = some m' → m'.length ≤ m.length + l.length
  | [],m,m',h => by injection h with h;subst h;simp
  | r :: l,m,m',h => by
    rw [addR] at h
    obtain ⟨m1,h1,h2⟩:=Option.bind_eq_some_iff.1 h
    have:=insR_length h1
    have:=addR_length h2
    simp
    omega
theorem mergeR_length {l m : List RW} (h : mergeR l = some m) : m.length ≤ l.length:=by
  have:=addR_length h
  simpa using this
theorem sorted_is {m o p : List RW} (hm : Asc m) (ho : o.Pairwise (fun a b => ¬ kLt b.key a.key)) (hp : o.Perm p) (hd : (p.map RW.key).Nodup) (hf : ∀ k,find k p = find k m) : o = m:=by
  have hdo : (o.map RW.key).Nodup:=(hp.map RW.key).nodup_iff.2 hd
  have hasc : Asc o:=by
    rw [List.Nodup,List.pairwise_map] at hdo
    refine (ho.and hdo).imp ?_
    rintro a b ⟨h1,h2⟩
    exact kLt.tri h1 (fun e => h2 e.symm)
  refine sort_ext hasc hm (fun k => ?_)
  rw [← hf k]
  cases h : find k p with
  | none =>
    refine find_none (fun r hr e => ?_)
    have hr:=hp.mem_iff.1 hr
    unfold find at h
    rw [List.find?_eq_none] at h
    have:=h r hr
    simp [e] at this
  | some b =>
    obtain ⟨e,hb⟩:=find_key h
    have:=find_mem hasc (hp.mem_iff.2 hb)
    rwa [e] at this
def replE : List RW → RW → List RW
  | [],_ => []
  | b :: E,r => if b.key = r.key then r :: E else b :: replE E r
def stepE (E : List RW) (r : RW) : Option (List RW):=match find r.key E with
  | none => some (E ++ [r])
  | some b => if clash r b then none else some (if moreR r b then replE E r else E)
def foldE : List RW → List RW → Option (List RW)
  | E,[] => some E
  | E,r :: l => (stepE E r).bind fun E' => foldE E' l
theorem find_app (k : Int × Int) (E F : List RW) : find k (E ++ F) = (find k E).or (find k F):=by
  unfold find
  rw [List.find?_append]
theorem replE_keys : ∀ (E : List RW) (r : RW),(replE E r).map RW.key = E.map RW.key
  | [],r => rfl
  | b :: E,r => by
    rw [replE]
    split
    · rename_i h
      rw [List.map_cons,List.map_cons,h]
    · rw [List.map_cons,List.map_cons,replE_keys E r]
theorem find_repl : ∀ (E : List RW) (r : RW) (k : Int × Int),find k (replE E r) = if k = r.key ∧ (find r.key E).isSome then some r else find k E
  | [],r,k => by simp [replE,find]
  | b :: E,r,k => by
    rw [replE]
    by_cases h : b.key = r.key
    · rw [if_pos h,find_cons,find_cons,find_cons,if_pos h]
      by_cases e : k = r.key
      · subst e
        simp
      · rw [if_neg (fun x => e x.symm),if_neg (fun x => e x.1),if_neg (fun x => e (x.symm.trans h))]
    · rw [if_neg h,find_cons,find_repl E r k,find_cons,find_cons,if_neg h]
      by_cases e : b.key = k
      · rw [if_pos e,if_pos e]
        subst e
        rw [if_neg (fun x => h x.1)]
      · rw [if_neg e,if_neg e]
theorem find_isSome {k : Int × Int} {E : List RW} : (find k E).isSome = true ↔ k ∈ E.map RW.key:=by
  unfold find
  rw [List.find?_isSome]
  simp
theorem step_spec {E m : List RW} {r : RW} (hm : Asc m) (hn : (E.map RW.key).Nodup) (hf : ∀ k,find k E = find k m) :
    match insR m r with
    | none => stepE E r = none
    | some m' => ∃ E',stepE E r = some E' ∧ (E'.map RW.key).Nodup ∧ ∀ k,find k E' = find k m':=by
  unfold stepE
  rw [hf r.key]
  cases hi : insR m r with
  | none =>
    show _ = none
    cases hr : find r.key m with
    | none =>
      obtain ⟨m',h'⟩:=insR_some hm (r:=r) (fun b hb => by rw [hr] at hb;cases hb)
      rw [hi] at h'
      cases h'
    | some b =>
      by_cases hc : clash r b
      · show (if clash r b then _ else _) = _
        rw [if_pos hc]
      · obtain ⟨m',h'⟩:=insR_some hm (r:=r) (fun b' hb => by rw [hr] at hb;injection hb with hb;subst hb;exact hc)
        rw [hi] at h'
        cases h'
  | some m' =>
    obtain ⟨q1,q2,q3⟩:=insR_spec hm hi
    show ∃ E',_
    cases hr : find r.key m with
    | none =>
      refine ⟨E ++ [r],rfl,?_,fun k => ?_⟩
      · rw [List.map_append,List.nodup_append]
        refine ⟨hn,by simp,fun a ha b hb => ?_⟩
        simp at hb
        subst hb
        intro e
        subst e
        have:=find_isSome.2 ha
        rw [hf,hr] at this
        cases this
      · rw [find_app,hf,q3,hr,find_cons]
        by_cases e : k = r.key
        · subst e
          rw [hr,if_pos rfl,if_pos rfl]
          rfl
        · rw [if_neg (fun x => e x.symm),if_neg e]
          cases find k m <;> rfl
    | some b =>
      have hc:=q2 b hr
      show ∃ E',(if clash r b then none else some (if moreR r b then replE E r else E)) = some E' ∧ _
      rw [if_neg hc]
      refine ⟨_,rfl,?_,fun k => ?_⟩
      · split
        · rw [replE_keys];exact hn
        · exact hn
      · rw [q3,hr]
        show _ = if k = r.key then some (updR r b) else find k m
        unfold updR
        split
        · rename_i hmo
          rw [find_repl,hf r.key,hr,hf k]
          simp
        · rw [hf k]
          by_cases e : k = r.key
          · subst e;rw [if_pos rfl,hr]
          · rw [if_neg e]
theorem fold_spec : ∀ (l E m : List RW),Asc m → (E.map RW.key).Nodup → (∀ k,find k E = find k m) →
    match addR m l with
    | none => foldE E l = none
    | some m' => ∃ E',foldE E l = some E' ∧ (E'.map RW.key).Nodup ∧ ∀ k,find k E' = find k m'
  | [],E,m,hm,hn,hf => ⟨E,rfl,hn,hf⟩
  | r :: l,E,m,hm,hn,hf => by
    have hs:=step_spec (r:=r) hm hn hf
    rw [addR,foldE]
    cases hi : insR m r with
    | none =>
      rw [hi] at hs
      rw [show stepE E r = none from hs]
      rfl
    | some m1 =>
      rw [hi] at hs
      obtain ⟨E1,h1,h2,h3⟩:=hs
      rw [h1]
      exact fold_spec l E1 m1 (insR_spec hm hi).1 h2 h3
theorem merge_map (l : List RW) : match mergeR l with
    | none => foldE [] l = none
    | some m => ∃ E,foldE [] l = some E ∧ ∀ o p : List RW,o.Pairwise (fun a b => ¬ kLt b.key a.key) → o.Perm p → p.Perm E → o = m:=by
  have h:=fold_spec l [] [] List.Pairwise.nil List.nodup_nil (fun k => rfl)
  unfold mergeR
  cases ha : addR [] l with
  | none => rw [ha] at h;exact h
  | some m =>
    rw [ha] at h
    obtain ⟨E,h1,h2,h3⟩:=h
    exact ⟨E,h1,fun o p ho hp hpe => sorted_is (addR_spec List.Pairwise.nil ha).1 ho (hp.trans hpe) h2 h3⟩
def engB (s : ByteArray) : Bool:=!decide (0 ≤ Go.Lib.idxFunc (fun c => decide (c < 33) || decide (c > 126)) true s)
def mayB (r : RW) : Bool:=(r.f0 == 98 || r.f0 == 106) && decide (0 ≤ r.f1) && decide (r.f1 < 16384) && decide (1 ≤ r.f2.size) && decide (r.f2.size ≤ 64) && (r.f3 == 0 || r.f3 == 3 || r.f3 == 4) && decide (0 ≤ r.f4) && decide (r.f4 ≤ 512) && engB r.f2
def wrongF (l : List RW) : Int:=if 16384 < l.length then 2 else if l.all mayB then 0 else 270
def mergeF (l : List RW) : List RW × Int:=if wrongF l ≠ 0 then ([],wrongF l) else match mergeR l with
  | none => ([],270)
  | some m => (m,0)
theorem wrongF_zero {l : List RW} : wrongF l = 0 ↔ l.length ≤ 16384 ∧ ∀ r ∈ l,mayB r = true:=by
  unfold wrongF
  split
  · constructor
    · intro h;exact absurd h (by decide)
    · intro h;omega
  · split
    · rename_i h1 h2
      rw [List.all_eq_true] at h2
      exact ⟨fun _ => ⟨by omega,h2⟩,fun _ => rfl⟩
    · rename_i h1 h2
      constructor
      · intro h;exact absurd h (by decide)
      · intro h
        exact absurd (List.all_eq_true.2 h.2) h2
theorem mergeF_ok {l m : List RW} (h : mergeF l = (m,0)) : wrongF l = 0 ∧ mergeR l = some m:=by
  unfold mergeF at h
  split at h
  · rename_i h1
    injection h with _ h
    exact absurd h h1
  · rename_i h1
    cases hm : mergeR l with
    | none => rw [hm] at h;injection h with _ h;exact absurd h (by decide)
    | some m' => rw [hm] at h;injection h with h _;subst h;exact ⟨Decidable.not_not.1 h1,rfl⟩
theorem mergeF_mk {l m : List RW} (h1 : wrongF l = 0) (h2 : mergeR l = some m) : mergeF l = (m,0):=by
  unfold mergeF
  rw [if_neg (fun h => h h1),h2]
theorem mergeF_bad (l : List RW) : ((mergeF l).2 ≠ 0 ∧ (mergeF l).1 = []) ∨ ∃ m,mergeF l = (m,0):=by
  unfold mergeF
  split
  · rename_i h
    exact .inl ⟨h,rfl⟩
  · cases mergeR l with
    | none => exact .inl ⟨(show (270 : Int) ≠ 0 by decide),rfl⟩
    | some m => exact .inr ⟨m,rfl⟩
theorem left_perm {α : Type} (b : α → Nat) (seen : List Nat) (e : α) : ∀ (l : List α),(l.map b).Nodup → e ∈ l → b e ∉ seen →
    (l.filter (fun x => !seen.contains (b x))).Perm (e :: l.filter (fun x => !(seen ++ [b e]).contains (b x)))
  | [],_,he,_ => by cases he
  | x :: l,hn,he,hs => by
    rw [List.map_cons,List.nodup_cons] at hn
    by_cases hx : e = x
    · subst hx
      have h1 : ∀ y ∈ l,b y ≠ b e:=fun y hy h => hn.1 (h ▸ List.mem_map_of_mem hy)
      have e1 : (!seen.contains (b e)) = true:=by simpa using hs
      have e2 : (!(seen ++ [b e]).contains (b e)) = false:=by simp
      rw [List.filter_cons,if_pos e1,List.filter_cons,if_neg (by rw [e2];decide)]
      have : l.filter (fun x => !(seen ++ [b e]).contains (b x)) = l.filter (fun x => !seen.contains (b x)):=by
        apply List.filter_congr
        intro y hy
        have:=h1 y hy
        simp [this]
      rw [this]
    · have he' : e ∈ l:=by
        rcases List.mem_cons.1 he with h|h
        · exact absurd h hx
        · exact h
      have ih:=left_perm b seen e l hn.2 he' hs
      have hne : b x ≠ b e:=fun h => hn.1 (h ▸ List.mem_map_of_mem he')
      rw [List.filter_cons,List.filter_cons]
      by_cases hc : (!seen.contains (b x)) = true
      · have hc2 : (!(seen ++ [b e]).contains (b x)) = true:=by simpa [hne] using hc
        rw [if_pos hc,if_pos hc2]
        exact (ih.cons x).trans (List.Perm.swap _ _ _)
      · have hc2 : ¬ (!(seen ++ [b e]).contains (b x)) = true:=by simpa [hne] using hc
        rw [if_neg hc,if_neg hc2]
        exact ih
def ordF (a b : RW) : Int:=if a.f0 = b.f0 then a.f1 - b.f1 else a.f0 - b.f0
theorem ordF_lt {a b : RW} : ordF a b < 0 ↔ kLt a.key b.key:=by
  unfold ordF kLt
  dsimp only [RW.key]
  split <;> omega
theorem kLt.ntrans {a b c : Int × Int} (h : ¬ kLt a b) (g : ¬ kLt b c) : ¬ kLt a c:=by unfold kLt at *;omega
end Go.Proofs.YtifigmamaakigaaDoor.V

