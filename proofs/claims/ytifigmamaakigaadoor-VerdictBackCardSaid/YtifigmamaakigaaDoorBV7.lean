import Derived.Test.YtifigmamaakigaaDoorBV6
import Derived.Lib.SplitLaws
namespace Go.Proofs.YtifigmamaakigaaDoor.V
open Go Go.RowKit Go.Lib Go.Proofs.YtifigmamaakigaaDoorW.PrintWords Go.Proofs.YtifigmamaakigaaDoorW.PrintLast Go.Proofs.YtifigmamaakigaaDoorW.PrintMore
set_option linter.unusedVariables false
set_option linter.unusedSimpArgs false
def fieldsF (l : ByteArray) : List ByteArray:=Lib.splitB ⟨#[32]⟩ 0 (Lib.countB l ⟨#[32]⟩) l
theorem fieldsF_len (l : ByteArray) : (fieldsF l).length = Lib.countB l ⟨#[32]⟩ + 1:=Lib.splitB_all ⟨#[32]⟩ (by decide) 0 _ l rfl
theorem splitB_le (sep : ByteArray) : ∀ (k : Nat) (s : ByteArray),∀ x ∈ Lib.splitB sep 0 k s,x.size ≤ s.size
  | 0,s,x,hx => by rw [List.mem_singleton.1 hx];exact Nat.le_refl _
  | k + 1,s,x,hx => by
    unfold Lib.splitB at hx
    split at hx
    · rw [List.mem_singleton.1 hx];exact Nat.le_refl _
    · rcases List.mem_cons.1 hx with rfl|hx
      · rw [ByteArray.size_extract];omega
      · have:=splitB_le sep k _ x hx
        rw [ByteArray.size_extract] at this
        omega
theorem fieldsF_le (l : ByteArray) : ∀ x ∈ fieldsF l,x.size ≤ l.size:=splitB_le _ _ _
theorem split_calls {w : World} {l : ByteArray} (hG : GV w) (hs : l.size ≤ 262144) :
    Calls Tryd.prog 32 #[.string l,.string ⟨#[32]⟩] w fun e w' => e = .returned (.slice (some ⟨w.heap.size,0,none⟩) (fieldsF l).length (fieldsF l).length) ∧ w' = w.alloc (.cells ((fieldsF l).map Value.string).toArray 9):=by
  obtain ⟨m,hm⟩:=max_cell hG
  rw [fieldsF_len]
  exact Tryd.strings_Split l ⟨#[32]⟩ m w (by omega) hm (by decide)
theorem idx_calls {w : World} {x : ByteArray} (hK : KV w) : Calls Tryd.prog 34 #[.slice (some ⟨0,0,none⟩) 5 5,.string x] w fun e w' => e = .returned (.int .i64 (Lib.idxOfS kindL x)) ∧ Below w.heap.size w w':=by
  refine (Tryd.slices_Index_string 0 0 5 5 kindL x w (Nat.le_refl _) (by decide) (fun j hj => ?_)).mono ?_
  · have hj : j < 5:=hj
    have : (⟨0,0 + j,none⟩ : Addr) = ⟨0,j,none⟩:=by rw [Nat.zero_add]
    rw [this,blk_cell hK j]
    rcases j with _|_|_|_|_|j
    · rfl
    · rfl
    · rfl
    · rfl
    · rfl
    · omega
  · rintro e w' ⟨h,rfl⟩
    exact ⟨h,Below.refl _ _⟩
def rowF (l : ByteArray) : RW × Bool:=match fieldsF l with
  | [a,b,c,d] => if a.size = 0 ∨ c.size = 0 then (zR,false) else
      (⟨bt a 0,numberF (a.extract 1 a.size),b,Lib.idxOfS kindL c,numberF d⟩,mayB ⟨bt a 0,numberF (a.extract 1 a.size),b,Lib.idxOfS kindL c,numberF d⟩)
  | _ => (zR,false)
theorem rowF_no {l : ByteArray} (h : (fieldsF l).length ≠ 4) : rowF l = (zR,false):=by
  unfold rowF
  split
  · rename_i e
    rw [e] at h
    exact absurd rfl h
  · rfl
theorem rowF_no2 {l a b c d : ByteArray} (e : fieldsF l = [a,b,c,d]) (h : a.size = 0 ∨ c.size = 0) : rowF l = (zR,false):=by
  unfold rowF
  rw [e]
  show (if _ then _ else _) = _
  rw [if_pos h]
theorem rowF_yes {l a b c d : ByteArray} (e : fieldsF l = [a,b,c,d]) (h : ¬ (a.size = 0 ∨ c.size = 0)) : rowF l = (⟨bt a 0,numberF (a.extract 1 a.size),b,Lib.idxOfS kindL c,numberF d⟩,mayB ⟨bt a 0,numberF (a.extract 1 a.size),b,Lib.idxOfS kindL c,numberF d⟩):=by
  unfold rowF
  rw [e]
  show (if _ then _ else _) = _
  rw [if_neg h]
theorem isEmpty_iff {s : ByteArray} : s.toList.isEmpty = true ↔ s.size = 0:=by
  rw [List.isEmpty_iff]
  exact toList_none
theorem wp_normal' {P : Program} {c : Code} {Q : Exit → Act → World → Prop} {a : Act} {w : World} (h : c.wp P (fun e a w => e = .normal ∧ Q .normal a w) a w) : c.wp P Q a w :=
  Code.wp_mono (fun _ _ _ hq => by
    obtain ⟨rfl,hq⟩:=hq
    exact hq) h
def set5 (W : World) (g : Nat) (r : RW) : World:=((((W.setCell ⟨g,0,none⟩ (.int .u8 r.f0)).setCell ⟨g,1,none⟩ (.int .i64 r.f1)).setCell ⟨g,2,none⟩ (.string r.f2)).setCell ⟨g,3,none⟩ (.int .i64 r.f3)).setCell ⟨g,4,none⟩ (.int .i64 r.f4)
theorem set5_blk {W : World} {g : Nat} {v0 v1 v2 v3 v4 : Value} (h : W.heap[g]? = some (.cells #[v0,v1,v2,v3,v4] 31 (0,0))) (r : RW) : (set5 W g r).heap[g]? = some (.cells #[.int .u8 r.f0,.int .i64 r.f1,.string r.f2,.int .i64 r.f3,.int .i64 r.f4] 31 (0,0)) :=
  blk_put (cs:=#[.int .u8 r.f0,.int .i64 r.f1,.string r.f2,.int .i64 r.f3,v4]) (blk_put (cs:=#[.int .u8 r.f0,.int .i64 r.f1,.string r.f2,v3,v4]) (blk_put (cs:=#[.int .u8 r.f0,.int .i64 r.f1,v2,v3,v4]) (blk_put (cs:=#[.int .u8 r.f0,v1,v2,v3,v4]) (blk_put (cs:=#[v0,v1,v2,v3,v4]) h 0 (.int .u8 r.f0) rfl) 1 (.int .i64 r.f1) rfl) 2 (.string r.f2) rfl) 3 (.int .i64 r.f3) rfl) 4 (.int .i64 r.f4) rfl
theorem set5_ne (W : World) (g : Nat) (r : RW) (k : Nat) (h : k ≠ g) : (set5 W g r).heap[k]? = W.heap[k]?:=by
  unfold set5
  rw [Below.heap_setCell _ ⟨g,4,none⟩ _ k h,Below.heap_setCell _ ⟨g,3,none⟩ _ k h,Below.heap_setCell _ ⟨g,2,none⟩ _ k h,Below.heap_setCell _ ⟨g,1,none⟩ _ k h,Below.heap_setCell _ ⟨g,0,none⟩ _ k h]
theorem set5_below {w W : World} {g : Nat} (h : Below w.heap.size w W) (hg : w.heap.size ≤ g) (r : RW) : Below w.heap.size w (set5 W g r):=below_set (below_set (below_set (below_set (below_set h hg) hg) hg) hg) hg
theorem blk_new2 (w : World) (o o' : Obj) : ((w.alloc o).alloc o').heap[w.heap.size + 1]? = some (match o' with|.cells c e f => .cells c e f|o => o):=by
  have h:=blk_new (w.alloc o) o'
  rw [World.size_alloc] at h
  rw [h]
  cases o' <;> rfl
set_option maxHeartbeats 4000000 in
set_option maxRecDepth 100000 in
theorem row_calls {w : World} {l : ByteArray} (hG : GV w) (hs : l.size ≤ 262144) :
    Calls Tryd.prog 23 #[.string l] w fun e w' => e = .returned (.tuple #[.agg #[.int .u8 (rowF l).1.f0,.int .i64 (rowF l).1.f1,.string (rowF l).1.f2,.int .i64 (rowF l).1.f3,.int .i64 (rowF l).1.f4],.bool (rowF l).2]) ∧ Below w.heap.size w w':=by
  have hu29:=Tryd.underlying29
  have hu31:=Tryd.underlying31
  have hb1 : Below w.heap.size w (w.alloc (.cells #[.int .u8 0,.int .i64 0,.string ⟨#[]⟩,.int .i64 0,.int .i64 0] 31)):=below_alloc (Below.refl _ _) _
  have SC:=Aside0.mk (split_calls (hG.below hb1) hs)
  have hk1 : (w.alloc (.cells #[.int .u8 0,.int .i64 0,.string ⟨#[]⟩,.int .i64 0,.int .i64 0] 31)).heap[w.heap.size]? = some (.cells #[.int .u8 0,.int .i64 0,.string ⟨#[]⟩,.int .i64 0,.int .i64 0] 31 (0,0)):=blk_new w _
  have HS:=Aside0.mk hs
  have HG:=Aside0.mk hG
  have HB:=Aside0.mk hb1
  have HK:=Aside0.mk hk1
  clear hG hs hb1 hk1
  by_cases c1 : (fieldsF l).length = 4
  · obtain ⟨a,b,c,d,hf⟩ : ∃ a b c d,fieldsF l = [a,b,c,d]:=by
      generalize fieldsF l = fs at c1
      rcases fs with _|⟨a,_|⟨b,_|⟨c,_|⟨d,_|⟨e,t⟩⟩⟩⟩⟩ <;> simp at c1
      exact ⟨a,b,c,d,rfl⟩
    clear c1
    by_cases c2 : a.size = 0 ∨ c.size = 0
    · rw [rowF_no2 hf c2]
      rw [hf] at SC
      clear hf
      have hb2 : a.size = 0 ∨ ¬ a.size = 0 ∧ c.size = 0:=by omega
      rcases hb2 with h1|⟨h1,h2⟩
      · have i1 : a.toList.isEmpty = true:=isEmpty_iff.2 h1
        clear c2 h1
        go_enter Tryd.func23,Tryd.ntmps23
        go_upto_region 2 with (go_at_call 32;refine (SC.out).mono ?_;rintro e w2 ⟨rfl,hw2⟩;have HB2:=Aside0.mk (show Below w.heap.size w w2 by rw [hw2];exact below_alloc HB.out _);have HK2:=Aside0.mk (show w2.heap[w.heap.size]? = some (.cells #[.int .u8 0,.int .i64 0,.string ⟨#[]⟩,.int .i64 0,.int .i64 0] 31 (0,0)) by rw [hw2];exact blk_alloc HK.out _);have HF2:=Aside0.mk (show w2.heap[w.heap.size + 1]? = some (.cells #[.string a,.string b,.string c,.string d] 9 (0,0)) by rw [hw2];exact blk_new2 w _ _);clear hw2)
        obtain ⟨g,hge⟩ : ∃ g,w.heap.size = g:=⟨_,rfl⟩
        rw [hge] at HK2 HF2 ⊢
        have HGE:=Aside0.mk hge
        clear hge
        have y0 : w2.cell? ⟨g,0,none⟩ = some (.int .u8 0):=(blk_cell HK2.out 0).trans rfl
        have y1 : w2.cell? ⟨g,1,none⟩ = some (.int .i64 0):=(blk_cell HK2.out 1).trans rfl
        have y2 : w2.cell? ⟨g,2,none⟩ = some (.string ⟨#[]⟩):=(blk_cell HK2.out 2).trans rfl
        have y3 : w2.cell? ⟨g,3,none⟩ = some (.int .i64 0):=(blk_cell HK2.out 3).trans rfl
        have y4 : w2.cell? ⟨g,4,none⟩ = some (.int .i64 0):=(blk_cell HK2.out 4).trans rfl
        have x0:=blk_frozen HK2.out 0
        have x1:=blk_frozen HK2.out 1
        have x2:=blk_frozen HK2.out 2
        have x3:=blk_frozen HK2.out 3
        have x4:=blk_frozen HK2.out 4
        have f0 : w2.cell? ⟨g + 1,0,none⟩ = some (.string a):=(blk_cell HF2.out 0).trans rfl
        have f1 : w2.cell? ⟨g + 1,1,none⟩ = some (.string b):=(blk_cell HF2.out 1).trans rfl
        have f2 : w2.cell? ⟨g + 1,2,none⟩ = some (.string c):=(blk_cell HF2.out 2).trans rfl
        have f3 : w2.cell? ⟨g + 1,3,none⟩ = some (.string d):=(blk_cell HF2.out 3).trans rfl
        go_wp2
        repeat (go_quiet (fail);try go_wp2)
        exact bodyPost_ret (results_ct (u:=3) (p:=2) rfl _ _ g 31 #[.int .u8 0,.int .i64 0,.string ⟨#[]⟩,.int .i64 0,.int .i64 0] (0,0) _ rfl (set5_blk HK2.out zR) Tryd.underlying31 rfl (by kernel_rfl)) rfl ⟨rfl,set5_below HB2.out (Nat.le_of_eq HGE.out) zR⟩
      · have i1 : a.toList.isEmpty = false:=by rw [Bool.eq_false_iff];exact fun h => h1 (isEmpty_iff.1 h)
        have i2 : c.toList.isEmpty = true:=isEmpty_iff.2 h2
        clear c2 h1 h2
        go_enter Tryd.func23,Tryd.ntmps23
        go_upto_region 2 with (go_at_call 32;refine (SC.out).mono ?_;rintro e w2 ⟨rfl,hw2⟩;have HB2:=Aside0.mk (show Below w.heap.size w w2 by rw [hw2];exact below_alloc HB.out _);have HK2:=Aside0.mk (show w2.heap[w.heap.size]? = some (.cells #[.int .u8 0,.int .i64 0,.string ⟨#[]⟩,.int .i64 0,.int .i64 0] 31 (0,0)) by rw [hw2];exact blk_alloc HK.out _);have HF2:=Aside0.mk (show w2.heap[w.heap.size + 1]? = some (.cells #[.string a,.string b,.string c,.string d] 9 (0,0)) by rw [hw2];exact blk_new2 w _ _);clear hw2)
        obtain ⟨g,hge⟩ : ∃ g,w.heap.size = g:=⟨_,rfl⟩
        rw [hge] at HK2 HF2 ⊢
        have HGE:=Aside0.mk hge
        clear hge
        have y0 : w2.cell? ⟨g,0,none⟩ = some (.int .u8 0):=(blk_cell HK2.out 0).trans rfl
        have y1 : w2.cell? ⟨g,1,none⟩ = some (.int .i64 0):=(blk_cell HK2.out 1).trans rfl
        have y2 : w2.cell? ⟨g,2,none⟩ = some (.string ⟨#[]⟩):=(blk_cell HK2.out 2).trans rfl
        have y3 : w2.cell? ⟨g,3,none⟩ = some (.int .i64 0):=(blk_cell HK2.out 3).trans rfl
        have y4 : w2.cell? ⟨g,4,none⟩ = some (.int .i64 0):=(blk_cell HK2.out 4).trans rfl
        have x0:=blk_frozen HK2.out 0
        have x1:=blk_frozen HK2.out 1
        have x2:=blk_frozen HK2.out 2
        have x3:=blk_frozen HK2.out 3
        have x4:=blk_frozen HK2.out 4
        have f0 : w2.cell? ⟨g + 1,0,none⟩ = some (.string a):=(blk_cell HF2.out 0).trans rfl
        have f1 : w2.cell? ⟨g + 1,1,none⟩ = some (.string b):=(blk_cell HF2.out 1).trans rfl
        have f2 : w2.cell? ⟨g + 1,2,none⟩ = some (.string c):=(blk_cell HF2.out 2).trans rfl
        have f3 : w2.cell? ⟨g + 1,3,none⟩ = some (.string d):=(blk_cell HF2.out 3).trans rfl
        go_wp2
        repeat (go_quiet (fail);try go_wp2)
        exact bodyPost_ret (results_ct (u:=3) (p:=2) rfl _ _ g 31 #[.int .u8 0,.int .i64 0,.string ⟨#[]⟩,.int .i64 0,.int .i64 0] (0,0) _ rfl (set5_blk HK2.out zR) Tryd.underlying31 rfl (by kernel_rfl)) rfl ⟨rfl,set5_below HB2.out (Nat.le_of_eq HGE.out) zR⟩
    · rw [rowF_yes hf c2]
      rw [hf] at SC
      have i1 : a.toList.isEmpty = false:=by rw [Bool.eq_false_iff];exact fun h => c2 (.inl (isEmpty_iff.1 h))
      have i2 : c.toList.isEmpty = false:=by rw [Bool.eq_false_iff];exact fun h => c2 (.inr (isEmpty_iff.1 h))
      have hfs : a.size ≤ 262144 ∧ d.size ≤ 262144 ∧ 1 ≤ a.size:=by
        have h1:=fieldsF_le l a (by rw [hf];simp)
        have h2:=fieldsF_le l d (by rw [hf];simp)
        have h3:=HS.out
        omega
      have HFS:=Aside0.mk hfs
      clear hf c2 hfs
      go_enter Tryd.func23,Tryd.ntmps23
      go_upto_region 2 with (go_at_call 32;refine (SC.out).mono ?_;rintro e w2 ⟨rfl,hw2⟩;have HB2:=Aside0.mk (show Below w.heap.size w w2 by rw [hw2];exact below_alloc HB.out _);have HK2:=Aside0.mk (show w2.heap[w.heap.size]? = some (.cells #[.int .u8 0,.int .i64 0,.string ⟨#[]⟩,.int .i64 0,.int .i64 0] 31 (0,0)) by rw [hw2];exact blk_alloc HK.out _);have HF2:=Aside0.mk (show w2.heap[w.heap.size + 1]? = some (.cells #[.string a,.string b,.string c,.string d] 9 (0,0)) by rw [hw2];exact blk_new2 w _ _);clear hw2)
      have HG2:=Aside0.mk (HG.out.below HB2.out)
      have HBT : Aside0 (bt a 0 = ((a[0]'(by have:=HFS.out.2.2;omega)).toNat : Int)):=⟨by simp [bt,Nat.lt_of_lt_of_le Nat.zero_lt_one HFS.out.2.2]⟩
      obtain ⟨g,hge⟩ : ∃ g,w.heap.size = g:=⟨_,rfl⟩
      rw [hge] at HK2 HF2 ⊢
      have HGE:=Aside0.mk hge
      clear hge
      have f0 : w2.cell? ⟨g + 1,0,none⟩ = some (.string a):=(blk_cell HF2.out 0).trans rfl
      have f2 : w2.cell? ⟨g + 1,2,none⟩ = some (.string c):=(blk_cell HF2.out 2).trans rfl
      go_upto_region 4 with (fail)
      clear f0 f2
      refine wp_normal' ?_
      refine start_ (n:=25) (S:=fun w' => Below w2.heap.size w2 w') (ds:=[24]) #[false,false,false,false,false,false,false,false,false,false,false,false,false,false,false,false,false,false,false,false,false,false,false,false,false] (by kernel_rfl) rfl rfl (below_drew (Below.refl _ _)) (fun hHeld => ?_)
      refine pure_ (i:=0) (N:=some 24) (v:=?_) (a':=?_) #[true,false,false,false,false,false,false,false,false,false,false,false,false,false,false,false,false,false,false,false,false,false,false,false,false] rfl rfl (by kernel_rfl) (fun _ _ _ h => by cases h.1) (Or.inl ⟨by rfl,?_⟩) ?_ ?_
      rotate_left
      · intro w'
        go_simp
        with_reducible rfl
      rotate_left
      · simp only [Act.put,List.setIfInBounds_toArray,List.set_cons_zero,List.set_cons_succ]
        rfl
      refine pure_ (i:=1) (N:=some 25) (v:=?_) (a':=?_) #[true,true,false,false,false,false,false,false,false,false,false,false,false,false,false,false,false,false,false,false,false,false,false,false,false] rfl rfl (by kernel_rfl) (fun _ _ _ h => by cases h.1) (Or.inl ⟨by rfl,?_⟩) ?_ ?_
      rotate_left
      · intro w'
        go_simp
        with_reducible rfl
      rotate_left
      · simp only [Act.put,List.setIfInBounds_toArray,List.set_cons_zero,List.set_cons_succ]
        rfl
      refine take_ (i:=2) (N:=some 26) (v:=?_) (a':=?_) #[true,true,true,false,false,false,false,false,false,false,false,false,false,false,false,false,false,false,false,false,false,false,false,false,false] rfl rfl (by kernel_rfl) (fun _ _ _ h => by cases h.1) (Or.inl ⟨by rfl,?_⟩) hHeld ?_ ?_
      rotate_left
      · intro w' s_
        have f0 : w'.cell? ⟨g + 1,0,none⟩ = some (.string a):=(blk_cell (blk_below HF2.out s_) 0).trans rfl
        have f1 : w'.cell? ⟨g + 1,1,none⟩ = some (.string b):=(blk_cell (blk_below HF2.out s_) 1).trans rfl
        have f2 : w'.cell? ⟨g + 1,2,none⟩ = some (.string c):=(blk_cell (blk_below HF2.out s_) 2).trans rfl
        have f3 : w'.cell? ⟨g + 1,3,none⟩ = some (.string d):=(blk_cell (blk_below HF2.out s_) 3).trans rfl
        go_simp
        with_reducible rfl
      rotate_left
      · simp only [Act.put,List.setIfInBounds_toArray,List.set_cons_zero,List.set_cons_succ]
        rfl
      refine pure_ (i:=3) (N:=some 27) (v:=?_) (a':=?_) #[true,true,true,true,false,false,false,false,false,false,false,false,false,false,false,false,false,false,false,false,false,false,false,false,false] rfl rfl (by kernel_rfl) (fun _ _ _ h => by cases h.1) (Or.inl ⟨by rfl,?_⟩) ?_ ?_
      rotate_left
      · intro w'
        have p1 : 0 < a.size:=HFS.out.2.2
        go_simp
        exact (congrArg (Value.int IntKind.u8) HBT.out).symm
      rotate_left
      · simp only [Act.put,List.setIfInBounds_toArray,List.set_cons_zero,List.set_cons_succ]
        rfl
      refine pure_ (i:=4) (N:=some 28) (v:=?_) (a':=?_) #[true,true,true,true,true,false,false,false,false,false,false,false,false,false,false,false,false,false,false,false,false,false,false,false,false] rfl rfl (by kernel_rfl) (fun _ _ _ h => by cases h.1) (Or.inl ⟨by rfl,?_⟩) ?_ ?_
      rotate_left
      · intro w'
        go_simp
        with_reducible rfl
      rotate_left
      · simp only [Act.put,List.setIfInBounds_toArray,List.set_cons_zero,List.set_cons_succ]
        rfl
      refine pure_ (i:=5) (N:=some 29) (v:=?_) (a':=?_) #[true,true,true,true,true,true,false,false,false,false,false,false,false,false,false,false,false,false,false,false,false,false,false,false,false] rfl rfl (by kernel_rfl) (fun _ _ _ h => by cases h.1) (Or.inl ⟨by rfl,?_⟩) ?_ ?_
      rotate_left
      · intro w'
        go_simp
        with_reducible rfl
      rotate_left
      · simp only [Act.put,List.setIfInBounds_toArray,List.set_cons_zero,List.set_cons_succ]
        rfl
      refine take_ (i:=6) (N:=some 30) (v:=?_) (a':=?_) #[true,true,true,true,true,true,true,false,false,false,false,false,false,false,false,false,false,false,false,false,false,false,false,false,false] rfl rfl (by kernel_rfl) (fun _ _ _ h => by cases h.1) (Or.inl ⟨by rfl,?_⟩) hHeld ?_ ?_
      rotate_left
      · intro w' s_
        have f0 : w'.cell? ⟨g + 1,0,none⟩ = some (.string a):=(blk_cell (blk_below HF2.out s_) 0).trans rfl
        have f1 : w'.cell? ⟨g + 1,1,none⟩ = some (.string b):=(blk_cell (blk_below HF2.out s_) 1).trans rfl
        have f2 : w'.cell? ⟨g + 1,2,none⟩ = some (.string c):=(blk_cell (blk_below HF2.out s_) 2).trans rfl
        have f3 : w'.cell? ⟨g + 1,3,none⟩ = some (.string d):=(blk_cell (blk_below HF2.out s_) 3).trans rfl
        go_simp
        with_reducible rfl
      rotate_left
      · simp only [Act.put,List.setIfInBounds_toArray,List.set_cons_zero,List.set_cons_succ]
        rfl
      refine pure_ (i:=7) (N:=some 31) (v:=?_) (a':=?_) #[true,true,true,true,true,true,true,true,false,false,false,false,false,false,false,false,false,false,false,false,false,false,false,false,false] rfl rfl (by kernel_rfl) (fun _ _ _ h => by cases h.1) (Or.inl ⟨by rfl,?_⟩) ?_ ?_
      rotate_left
      · intro w'
        have p1 : (1 : Int) ≤ (a.size : Int):=by have:=HFS.out.2.2;omega
        go_simp
        with_reducible rfl
      rotate_left
      · simp only [Act.put,List.setIfInBounds_toArray,List.set_cons_zero,List.set_cons_succ]
        rfl
      refine pure_ (i:=10) (N:=some 34) (v:=?_) (a':=?_) #[true,true,true,true,true,true,true,true,false,false,true,false,false,false,false,false,false,false,false,false,false,false,false,false,false] rfl rfl (by kernel_rfl) (fun _ _ _ h => by cases h.1) (Or.inl ⟨by rfl,?_⟩) ?_ ?_
      rotate_left
      · intro w'
        go_simp
        with_reducible rfl
      rotate_left
      · simp only [Act.put,List.setIfInBounds_toArray,List.set_cons_zero,List.set_cons_succ]
        rfl
      refine pure_ (i:=11) (N:=some 35) (v:=?_) (a':=?_) #[true,true,true,true,true,true,true,true,false,false,true,true,false,false,false,false,false,false,false,false,false,false,false,false,false] rfl rfl (by kernel_rfl) (fun _ _ _ h => by cases h.1) (Or.inl ⟨by rfl,?_⟩) ?_ ?_
      rotate_left
      · intro w'
        go_simp
        with_reducible rfl
      rotate_left
      · simp only [Act.put,List.setIfInBounds_toArray,List.set_cons_zero,List.set_cons_succ]
        rfl
      refine take_ (i:=12) (N:=some 36) (v:=?_) (a':=?_) #[true,true,true,true,true,true,true,true,false,false,true,true,true,false,false,false,false,false,false,false,false,false,false,false,false] rfl rfl (by kernel_rfl) (fun _ _ _ h => by cases h.1) (Or.inl ⟨by rfl,?_⟩) hHeld ?_ ?_
      rotate_left
      · intro w' s_
        have f0 : w'.cell? ⟨g + 1,0,none⟩ = some (.string a):=(blk_cell (blk_below HF2.out s_) 0).trans rfl
        have f1 : w'.cell? ⟨g + 1,1,none⟩ = some (.string b):=(blk_cell (blk_below HF2.out s_) 1).trans rfl
        have f2 : w'.cell? ⟨g + 1,2,none⟩ = some (.string c):=(blk_cell (blk_below HF2.out s_) 2).trans rfl
        have f3 : w'.cell? ⟨g + 1,3,none⟩ = some (.string d):=(blk_cell (blk_below HF2.out s_) 3).trans rfl
        go_simp
        with_reducible rfl
      rotate_left
      · simp only [Act.put,List.setIfInBounds_toArray,List.set_cons_zero,List.set_cons_succ]
        rfl
      refine pure_ (i:=13) (N:=some 37) (v:=?_) (a':=?_) #[true,true,true,true,true,true,true,true,false,false,true,true,true,true,false,false,false,false,false,false,false,false,false,false,false] rfl rfl (by kernel_rfl) (fun _ _ _ h => by cases h.1) (Or.inl ⟨by rfl,?_⟩) ?_ ?_
      rotate_left
      · intro w'
        go_simp
        with_reducible rfl
      rotate_left
      · simp only [Act.put,List.setIfInBounds_toArray,List.set_cons_zero,List.set_cons_succ]
        rfl
      refine pure_ (i:=14) (N:=some 38) (v:=?_) (a':=?_) #[true,true,true,true,true,true,true,true,false,false,true,true,true,true,true,false,false,false,false,false,false,false,false,false,false] rfl rfl (by kernel_rfl) (fun _ _ _ h => by cases h.1) (Or.inl ⟨by rfl,?_⟩) ?_ ?_
      rotate_left
      · intro w'
        go_simp
        with_reducible rfl
      rotate_left
      · simp only [Act.put,List.setIfInBounds_toArray,List.set_cons_zero,List.set_cons_succ]
        rfl
      refine pure_ (i:=15) (N:=some 39) (v:=?_) (a':=?_) #[true,true,true,true,true,true,true,true,false,false,true,true,true,true,true,true,false,false,false,false,false,false,false,false,false] rfl rfl (by kernel_rfl) (fun _ _ _ h => by cases h.1) (Or.inl ⟨by rfl,?_⟩) ?_ ?_
      rotate_left
      · intro w'
        go_simp
        with_reducible rfl
      rotate_left
      · simp only [Act.put,List.setIfInBounds_toArray,List.set_cons_zero,List.set_cons_succ]
        rfl
      refine take_ (i:=16) (N:=some 40) (v:=?_) (a':=?_) #[true,true,true,true,true,true,true,true,false,false,true,true,true,true,true,true,true,false,false,false,false,false,false,false,false] rfl rfl (by kernel_rfl) (fun _ _ _ h => by cases h.1) (Or.inl ⟨by rfl,?_⟩) hHeld ?_ ?_
      rotate_left
      · intro w' s_
        have f0 : w'.cell? ⟨g + 1,0,none⟩ = some (.string a):=(blk_cell (blk_below HF2.out s_) 0).trans rfl
        have f1 : w'.cell? ⟨g + 1,1,none⟩ = some (.string b):=(blk_cell (blk_below HF2.out s_) 1).trans rfl
        have f2 : w'.cell? ⟨g + 1,2,none⟩ = some (.string c):=(blk_cell (blk_below HF2.out s_) 2).trans rfl
        have f3 : w'.cell? ⟨g + 1,3,none⟩ = some (.string d):=(blk_cell (blk_below HF2.out s_) 3).trans rfl
        go_simp
        with_reducible rfl
      rotate_left
      · simp only [Act.put,List.setIfInBounds_toArray,List.set_cons_zero,List.set_cons_succ]
        rfl
      refine pure_ (i:=18) (N:=some 42) (v:=?_) (a':=?_) #[true,true,true,true,true,true,true,true,false,false,true,true,true,true,true,true,true,false,true,false,false,false,false,false,false] rfl rfl (by kernel_rfl) (fun _ _ _ h => by cases h.1) (Or.inl ⟨by rfl,?_⟩) ?_ ?_
      rotate_left
      · intro w'
        go_simp
        with_reducible rfl
      rotate_left
      · simp only [Act.put,List.setIfInBounds_toArray,List.set_cons_zero,List.set_cons_succ]
        rfl
      refine pure_ (i:=19) (N:=some 43) (v:=?_) (a':=?_) #[true,true,true,true,true,true,true,true,false,false,true,true,true,true,true,true,true,false,true,true,false,false,false,false,false] rfl rfl (by kernel_rfl) (fun _ _ _ h => by cases h.1) (Or.inl ⟨by rfl,?_⟩) ?_ ?_
      rotate_left
      · intro w'
        go_simp
        with_reducible rfl
      rotate_left
      · simp only [Act.put,List.setIfInBounds_toArray,List.set_cons_zero,List.set_cons_succ]
        rfl
      refine take_ (i:=20) (N:=some 44) (v:=?_) (a':=?_) #[true,true,true,true,true,true,true,true,false,false,true,true,true,true,true,true,true,false,true,true,true,false,false,false,false] rfl rfl (by kernel_rfl) (fun _ _ _ h => by cases h.1) (Or.inl ⟨by rfl,?_⟩) hHeld ?_ ?_
      rotate_left
      · intro w' s_
        have f0 : w'.cell? ⟨g + 1,0,none⟩ = some (.string a):=(blk_cell (blk_below HF2.out s_) 0).trans rfl
        have f1 : w'.cell? ⟨g + 1,1,none⟩ = some (.string b):=(blk_cell (blk_below HF2.out s_) 1).trans rfl
        have f2 : w'.cell? ⟨g + 1,2,none⟩ = some (.string c):=(blk_cell (blk_below HF2.out s_) 2).trans rfl
        have f3 : w'.cell? ⟨g + 1,3,none⟩ = some (.string d):=(blk_cell (blk_below HF2.out s_) 3).trans rfl
        go_simp
        with_reducible rfl
      rotate_left
      · simp only [Act.put,List.setIfInBounds_toArray,List.set_cons_zero,List.set_cons_succ]
        rfl
      refine join_ (σ:=Nat) 1 #[true,true,true,true,true,true,true,true,true,true,true,true,true,true,true,true,true,true,true,true,true,true,true,true,false] (fun z => [(32,.int .i64 (numberF (a.extract 1 a.size))),(33,.agg #[.int .u8 (bt a 0),.int .i64 (numberF (a.extract 1 a.size))]),(41,.int .i64 (Lib.idxOfS kindL c)),(45,.int .i64 (numberF d)),(46,.agg #[.int .u8 (bt a 0),.int .i64 (numberF (a.extract 1 a.size)),.string b,.int .i64 (Lib.idxOfS kindL c),.int .i64 (numberF d)]),(5,.pointer (some ⟨z,0,none⟩))]) (fun z W' => W'.heap[z]? = some (.cells #[.int .u8 0,.int .i64 0,.string ⟨#[]⟩,.int .i64 0,.int .i64 0] 31 (0,0)) ∧ w2.heap.size ≤ z ∧ Below w2.heap.size w2 W') ?cont ?orders
      case orders =>
        intro hcont
        refine two_ (i:=8) (j:=23) (Ni:=some 32) (Nj:=some 5) #[true,true,true,true,true,true,true,true,true,false,true,true,true,true,true,true,true,false,true,true,true,false,false,false,false] #[true,true,true,true,true,true,true,true,false,false,true,true,true,true,true,true,true,false,true,true,true,false,false,true,false] rfl rfl rfl rfl (by kernel_rfl) (by decide) (by decide) (fun K hK => ?_) (fun K hK => ?_)
        · refine goes_ Tryd.func33 (by kernel_rfl) rfl #[.string (a.extract 1 a.size)] (by rfl) rfl rfl (by (try simp only [List.map_toArray,List.map_cons,List.map_nil]);first|done|rfl) ?_
          refine (number_calls (HG2.out.below hHeld) (by have:=HFS.out;rw [ByteArray.size_extract];omega)).mono ?_
          rintro e_ w_ ⟨rfl,hb_⟩
          have hS_:=hHeld.trans (SHlower hHeld.size hb_)
          refine ⟨_,rfl,hK.out _ _ hS_ (fun _ => ?_)⟩
          clear hK K
          have hHeld:=hS_
          clear hS_
          refine norm_ (a':=?_) ?_ ?_
          rotate_left
          · show Act.put _ (some 32) _ = _
            simp only [Act.put,List.setIfInBounds_toArray,List.set_cons_zero,List.set_cons_succ]
            rfl
          clear hb_
          refine pure_ (i:=9) (N:=some 33) (v:=?_) (a':=?_) #[true,true,true,true,true,true,true,true,true,true,true,true,true,true,true,true,true,false,true,true,true,false,false,false,false] rfl rfl (by kernel_rfl) (fun _ _ _ h => by cases h.1) (Or.inl ⟨by rfl,?_⟩) ?_ ?_
          rotate_left
          · intro w'
            go_simp
            with_reducible rfl
          rotate_left
          · simp only [Act.put,List.setIfInBounds_toArray,List.set_cons_zero,List.set_cons_succ]
            rfl
          refine two_ (i:=17) (j:=23) (Ni:=some 41) (Nj:=some 5) #[true,true,true,true,true,true,true,true,true,true,true,true,true,true,true,true,true,true,true,true,true,false,false,false,false] #[true,true,true,true,true,true,true,true,true,true,true,true,true,true,true,true,true,false,true,true,true,false,false,true,false] rfl rfl rfl rfl (by kernel_rfl) (by decide) (by decide) (fun K hK => ?_) (fun K hK => ?_)
          · refine goes_ Tryd.func34 (by kernel_rfl) rfl #[.slice (some ⟨0,0,none⟩) 5 5,.string c] (by rfl) rfl rfl (by (try simp only [List.map_toArray,List.map_cons,List.map_nil]);first|done|rfl) ?_
            refine (idx_calls (HG2.out.below hHeld).kv).mono ?_
            rintro e_ w_ ⟨rfl,hb_⟩
            have hS_:=hHeld.trans (SHlower hHeld.size hb_)
            refine ⟨_,rfl,hK.out _ _ hS_ (fun _ => ?_)⟩
            clear hK K
            have hHeld:=hS_
            clear hS_
            refine norm_ (a':=?_) ?_ ?_
            rotate_left
            · show Act.put _ (some 41) _ = _
              simp only [Act.put,List.setIfInBounds_toArray,List.set_cons_zero,List.set_cons_succ]
              rfl
            clear hb_
            refine two_ (i:=21) (j:=23) (Ni:=some 45) (Nj:=some 5) #[true,true,true,true,true,true,true,true,true,true,true,true,true,true,true,true,true,true,true,true,true,true,false,false,false] #[true,true,true,true,true,true,true,true,true,true,true,true,true,true,true,true,true,true,true,true,true,false,false,true,false] rfl rfl rfl rfl (by kernel_rfl) (by decide) (by decide) (fun K hK => ?_) (fun K hK => ?_)
            · refine goes_ Tryd.func33 (by kernel_rfl) rfl #[.string d] (by rfl) rfl rfl (by (try simp only [List.map_toArray,List.map_cons,List.map_nil]);first|done|rfl) ?_
              refine (number_calls (HG2.out.below hHeld) (by have:=HFS.out;omega)).mono ?_
              rintro e_ w_ ⟨rfl,hb_⟩
              have hS_:=hHeld.trans (SHlower hHeld.size hb_)
              refine ⟨_,rfl,hK.out _ _ hS_ (fun _ => ?_)⟩
              clear hK K
              have hHeld:=hS_
              clear hS_
              refine norm_ (a':=?_) ?_ ?_
              rotate_left
              · show Act.put _ (some 45) _ = _
                simp only [Act.put,List.setIfInBounds_toArray,List.set_cons_zero,List.set_cons_succ]
                rfl
              clear hb_
              refine pure_ (i:=22) (N:=some 46) (v:=?_) (a':=?_) #[true,true,true,true,true,true,true,true,true,true,true,true,true,true,true,true,true,true,true,true,true,true,true,false,false] rfl rfl (by kernel_rfl) (fun _ _ _ h => by cases h.1) (Or.inl ⟨by rfl,?_⟩) ?_ ?_
              rotate_left
              · intro w'
                go_simp
                with_reducible rfl
              rotate_left
              · simp only [Act.put,List.setIfInBounds_toArray,List.set_cons_zero,List.set_cons_succ]
                rfl
              refine one_ (i:=23) (N:=some 5) #[true,true,true,true,true,true,true,true,true,true,true,true,true,true,true,true,true,true,true,true,true,true,true,true,false] rfl rfl (by kernel_rfl) (by decide) (fun K hK => ?_)
              refine value_ (v:=.pointer (some ⟨w_.heap.size,0,none⟩)) (w1:=w_.alloc (.cells #[.int .u8 0,.int .i64 0,.string ⟨#[]⟩,.int .i64 0,.int .i64 0] 31)) rfl rfl ?_ ?_
              · go_simp
              have hS_ : Below w2.heap.size w2 (w_.alloc (.cells #[.int .u8 0,.int .i64 0,.string ⟨#[]⟩,.int .i64 0,.int .i64 0] 31)):=below_alloc hHeld _
              have hz : (w_.alloc (.cells #[.int .u8 0,.int .i64 0,.string ⟨#[]⟩,.int .i64 0,.int .i64 0] 31)).heap[w_.heap.size]? = some (.cells #[.int .u8 0,.int .i64 0,.string ⟨#[]⟩,.int .i64 0,.int .i64 0] 31 (0,0)):=blk_new _ _
              have hzl : w2.heap.size ≤ w_.heap.size:=hHeld.size
              refine hK.out _ _ hS_ (fun _ => ?_)
              clear hK K
              have hHeld:=hS_
              clear hS_
              generalize w_.heap.size = z_ at hz hzl ⊢
              generalize w_.alloc (.cells #[.int .u8 0,.int .i64 0,.string ⟨#[]⟩,.int .i64 0,.int .i64 0] 31) = w_ at hz hHeld ⊢
              refine norm_ (a':=?_) ?_ ?_
              rotate_left
              · show Act.put _ (some 5) _ = _
                simp only [Act.put,List.setIfInBounds_toArray,List.set_cons_zero,List.set_cons_succ]
                rfl
              refine norm_ (a':=_) ?_ (hcont z_ _ ⟨hz,hzl,hHeld⟩)
              simp only [putAll,Act.put,List.setIfInBounds_toArray,List.set_cons_zero,List.set_cons_succ]
            · refine value_ (v:=.pointer (some ⟨w_.heap.size,0,none⟩)) (w1:=w_.alloc (.cells #[.int .u8 0,.int .i64 0,.string ⟨#[]⟩,.int .i64 0,.int .i64 0] 31)) rfl rfl ?_ ?_
              · go_simp
              have hS_ : Below w2.heap.size w2 (w_.alloc (.cells #[.int .u8 0,.int .i64 0,.string ⟨#[]⟩,.int .i64 0,.int .i64 0] 31)):=below_alloc hHeld _
              have hz : (w_.alloc (.cells #[.int .u8 0,.int .i64 0,.string ⟨#[]⟩,.int .i64 0,.int .i64 0] 31)).heap[w_.heap.size]? = some (.cells #[.int .u8 0,.int .i64 0,.string ⟨#[]⟩,.int .i64 0,.int .i64 0] 31 (0,0)):=blk_new _ _
              have hzl : w2.heap.size ≤ w_.heap.size:=hHeld.size
              refine hK.out _ _ hS_ (fun _ => ?_)
              clear hK K
              have hHeld:=hS_
              clear hS_
              generalize w_.heap.size = z_ at hz hzl ⊢
              generalize w_.alloc (.cells #[.int .u8 0,.int .i64 0,.string ⟨#[]⟩,.int .i64 0,.int .i64 0] 31) = w_ at hz hHeld ⊢
              refine norm_ (a':=?_) ?_ ?_
              rotate_left
              · show Act.put _ (some 5) _ = _
                simp only [Act.put,List.setIfInBounds_toArray,List.set_cons_zero,List.set_cons_succ]
                rfl
              refine one_ (i:=21) (N:=some 45) #[true,true,true,true,true,true,true,true,true,true,true,true,true,true,true,true,true,true,true,true,true,true,false,true,false] rfl rfl (by kernel_rfl) (by decide) (fun K hK => ?_)
              refine goes_ Tryd.func33 (by kernel_rfl) rfl #[.string d] (by rfl) rfl rfl (by (try simp only [List.map_toArray,List.map_cons,List.map_nil]);first|done|rfl) ?_
              refine (number_calls (HG2.out.below hHeld) (by have:=HFS.out;omega)).mono ?_
              rintro e_ w_ ⟨rfl,hb_⟩
              have hS_:=hHeld.trans (SHlower hHeld.size hb_)
              refine ⟨_,rfl,hK.out _ _ hS_ (fun _ => ?_)⟩
              clear hK K
              have hHeld:=hS_
              clear hS_
              refine norm_ (a':=?_) ?_ ?_
              rotate_left
              · show Act.put _ (some 45) _ = _
                simp only [Act.put,List.setIfInBounds_toArray,List.set_cons_zero,List.set_cons_succ]
                rfl
              have hz_:=blk_below hz hb_
              clear hz hb_
              have hz:=hz_
              clear hz_
              refine pure_ (i:=22) (N:=some 46) (v:=?_) (a':=?_) #[true,true,true,true,true,true,true,true,true,true,true,true,true,true,true,true,true,true,true,true,true,true,true,true,false] rfl rfl (by kernel_rfl) (fun _ _ _ h => by cases h.1) (Or.inl ⟨by rfl,?_⟩) ?_ ?_
              rotate_left
              · intro w'
                go_simp
                with_reducible rfl
              rotate_left
              · simp only [Act.put,List.setIfInBounds_toArray,List.set_cons_zero,List.set_cons_succ]
                rfl
              refine norm_ (a':=_) ?_ (hcont z_ _ ⟨hz,hzl,hHeld⟩)
              simp only [putAll,Act.put,List.setIfInBounds_toArray,List.set_cons_zero,List.set_cons_succ]
          · refine value_ (v:=.pointer (some ⟨w_.heap.size,0,none⟩)) (w1:=w_.alloc (.cells #[.int .u8 0,.int .i64 0,.string ⟨#[]⟩,.int .i64 0,.int .i64 0] 31)) rfl rfl ?_ ?_
            · go_simp
            have hS_ : Below w2.heap.size w2 (w_.alloc (.cells #[.int .u8 0,.int .i64 0,.string ⟨#[]⟩,.int .i64 0,.int .i64 0] 31)):=below_alloc hHeld _
            have hz : (w_.alloc (.cells #[.int .u8 0,.int .i64 0,.string ⟨#[]⟩,.int .i64 0,.int .i64 0] 31)).heap[w_.heap.size]? = some (.cells #[.int .u8 0,.int .i64 0,.string ⟨#[]⟩,.int .i64 0,.int .i64 0] 31 (0,0)):=blk_new _ _
            have hzl : w2.heap.size ≤ w_.heap.size:=hHeld.size
            refine hK.out _ _ hS_ (fun _ => ?_)
            clear hK K
            have hHeld:=hS_
            clear hS_
            generalize w_.heap.size = z_ at hz hzl ⊢
            generalize w_.alloc (.cells #[.int .u8 0,.int .i64 0,.string ⟨#[]⟩,.int .i64 0,.int .i64 0] 31) = w_ at hz hHeld ⊢
            refine norm_ (a':=?_) ?_ ?_
            rotate_left
            · show Act.put _ (some 5) _ = _
              simp only [Act.put,List.setIfInBounds_toArray,List.set_cons_zero,List.set_cons_succ]
              rfl
            refine one_ (i:=17) (N:=some 41) #[true,true,true,true,true,true,true,true,true,true,true,true,true,true,true,true,true,true,true,true,true,false,false,true,false] rfl rfl (by kernel_rfl) (by decide) (fun K hK => ?_)
            refine goes_ Tryd.func34 (by kernel_rfl) rfl #[.slice (some ⟨0,0,none⟩) 5 5,.string c] (by rfl) rfl rfl (by (try simp only [List.map_toArray,List.map_cons,List.map_nil]);first|done|rfl) ?_
            refine (idx_calls (HG2.out.below hHeld).kv).mono ?_
            rintro e_ w_ ⟨rfl,hb_⟩
            have hS_:=hHeld.trans (SHlower hHeld.size hb_)
            refine ⟨_,rfl,hK.out _ _ hS_ (fun _ => ?_)⟩
            clear hK K
            have hHeld:=hS_
            clear hS_
            refine norm_ (a':=?_) ?_ ?_
            rotate_left
            · show Act.put _ (some 41) _ = _
              simp only [Act.put,List.setIfInBounds_toArray,List.set_cons_zero,List.set_cons_succ]
              rfl
            have hz_:=blk_below hz hb_
            clear hz hb_
            have hz:=hz_
            clear hz_
            refine one_ (i:=21) (N:=some 45) #[true,true,true,true,true,true,true,true,true,true,true,true,true,true,true,true,true,true,true,true,true,true,false,true,false] rfl rfl (by kernel_rfl) (by decide) (fun K hK => ?_)
            refine goes_ Tryd.func33 (by kernel_rfl) rfl #[.string d] (by rfl) rfl rfl (by (try simp only [List.map_toArray,List.map_cons,List.map_nil]);first|done|rfl) ?_
            refine (number_calls (HG2.out.below hHeld) (by have:=HFS.out;omega)).mono ?_
            rintro e_ w_ ⟨rfl,hb_⟩
            have hS_:=hHeld.trans (SHlower hHeld.size hb_)
            refine ⟨_,rfl,hK.out _ _ hS_ (fun _ => ?_)⟩
            clear hK K
            have hHeld:=hS_
            clear hS_
            refine norm_ (a':=?_) ?_ ?_
            rotate_left
            · show Act.put _ (some 45) _ = _
              simp only [Act.put,List.setIfInBounds_toArray,List.set_cons_zero,List.set_cons_succ]
              rfl
            have hz_:=blk_below hz hb_
            clear hz hb_
            have hz:=hz_
            clear hz_
            refine pure_ (i:=22) (N:=some 46) (v:=?_) (a':=?_) #[true,true,true,true,true,true,true,true,true,true,true,true,true,true,true,true,true,true,true,true,true,true,true,true,false] rfl rfl (by kernel_rfl) (fun _ _ _ h => by cases h.1) (Or.inl ⟨by rfl,?_⟩) ?_ ?_
            rotate_left
            · intro w'
              go_simp
              with_reducible rfl
            rotate_left
            · simp only [Act.put,List.setIfInBounds_toArray,List.set_cons_zero,List.set_cons_succ]
              rfl
            refine norm_ (a':=_) ?_ (hcont z_ _ ⟨hz,hzl,hHeld⟩)
            simp only [putAll,Act.put,List.setIfInBounds_toArray,List.set_cons_zero,List.set_cons_succ]
        · refine value_ (v:=.pointer (some ⟨w2.drew.heap.size,0,none⟩)) (w1:=w2.drew.alloc (.cells #[.int .u8 0,.int .i64 0,.string ⟨#[]⟩,.int .i64 0,.int .i64 0] 31)) rfl rfl ?_ ?_
          · go_simp
          have hS_ : Below w2.heap.size w2 (w2.drew.alloc (.cells #[.int .u8 0,.int .i64 0,.string ⟨#[]⟩,.int .i64 0,.int .i64 0] 31)):=below_alloc hHeld _
          have hz : (w2.drew.alloc (.cells #[.int .u8 0,.int .i64 0,.string ⟨#[]⟩,.int .i64 0,.int .i64 0] 31)).heap[w2.drew.heap.size]? = some (.cells #[.int .u8 0,.int .i64 0,.string ⟨#[]⟩,.int .i64 0,.int .i64 0] 31 (0,0)):=blk_new _ _
          have hzl : w2.heap.size ≤ w2.drew.heap.size:=hHeld.size
          refine hK.out _ _ hS_ (fun _ => ?_)
          clear hK K
          have hHeld:=hS_
          clear hS_
          generalize w2.drew.heap.size = z_ at hz hzl ⊢
          generalize w2.drew.alloc (.cells #[.int .u8 0,.int .i64 0,.string ⟨#[]⟩,.int .i64 0,.int .i64 0] 31) = w_ at hz hHeld ⊢
          refine norm_ (a':=?_) ?_ ?_
          rotate_left
          · show Act.put _ (some 5) _ = _
            simp only [Act.put,List.setIfInBounds_toArray,List.set_cons_zero,List.set_cons_succ]
            rfl
          refine one_ (i:=8) (N:=some 32) #[true,true,true,true,true,true,true,true,true,false,true,true,true,true,true,true,true,false,true,true,true,false,false,true,false] rfl rfl (by kernel_rfl) (by decide) (fun K hK => ?_)
          refine goes_ Tryd.func33 (by kernel_rfl) rfl #[.string (a.extract 1 a.size)] (by rfl) rfl rfl (by (try simp only [List.map_toArray,List.map_cons,List.map_nil]);first|done|rfl) ?_
          refine (number_calls (HG2.out.below hHeld) (by have:=HFS.out;rw [ByteArray.size_extract];omega)).mono ?_
          rintro e_ w_ ⟨rfl,hb_⟩
          have hS_:=hHeld.trans (SHlower hHeld.size hb_)
          refine ⟨_,rfl,hK.out _ _ hS_ (fun _ => ?_)⟩
          clear hK K
          have hHeld:=hS_
          clear hS_
          refine norm_ (a':=?_) ?_ ?_
          rotate_left
          · show Act.put _ (some 32) _ = _
            simp only [Act.put,List.setIfInBounds_toArray,List.set_cons_zero,List.set_cons_succ]
            rfl
          have hz_:=blk_below hz hb_
          clear hz hb_
          have hz:=hz_
          clear hz_
          refine pure_ (i:=9) (N:=some 33) (v:=?_) (a':=?_) #[true,true,true,true,true,true,true,true,true,true,true,true,true,true,true,true,true,false,true,true,true,false,false,true,false] rfl rfl (by kernel_rfl) (fun _ _ _ h => by cases h.1) (Or.inl ⟨by rfl,?_⟩) ?_ ?_
          rotate_left
          · intro w'
            go_simp
            with_reducible rfl
          rotate_left
          · simp only [Act.put,List.setIfInBounds_toArray,List.set_cons_zero,List.set_cons_succ]
            rfl
          refine one_ (i:=17) (N:=some 41) #[true,true,true,true,true,true,true,true,true,true,true,true,true,true,true,true,true,true,true,true,true,false,false,true,false] rfl rfl (by kernel_rfl) (by decide) (fun K hK => ?_)
          refine goes_ Tryd.func34 (by kernel_rfl) rfl #[.slice (some ⟨0,0,none⟩) 5 5,.string c] (by rfl) rfl rfl (by (try simp only [List.map_toArray,List.map_cons,List.map_nil]);first|done|rfl) ?_
          refine (idx_calls (HG2.out.below hHeld).kv).mono ?_
          rintro e_ w_ ⟨rfl,hb_⟩
          have hS_:=hHeld.trans (SHlower hHeld.size hb_)
          refine ⟨_,rfl,hK.out _ _ hS_ (fun _ => ?_)⟩
          clear hK K
          have hHeld:=hS_
          clear hS_
          refine norm_ (a':=?_) ?_ ?_
          rotate_left
          · show Act.put _ (some 41) _ = _
            simp only [Act.put,List.setIfInBounds_toArray,List.set_cons_zero,List.set_cons_succ]
            rfl
          have hz_:=blk_below hz hb_
          clear hz hb_
          have hz:=hz_
          clear hz_
          refine one_ (i:=21) (N:=some 45) #[true,true,true,true,true,true,true,true,true,true,true,true,true,true,true,true,true,true,true,true,true,true,false,true,false] rfl rfl (by kernel_rfl) (by decide) (fun K hK => ?_)
          refine goes_ Tryd.func33 (by kernel_rfl) rfl #[.string d] (by rfl) rfl rfl (by (try simp only [List.map_toArray,List.map_cons,List.map_nil]);first|done|rfl) ?_
          refine (number_calls (HG2.out.below hHeld) (by have:=HFS.out;omega)).mono ?_
          rintro e_ w_ ⟨rfl,hb_⟩
          have hS_:=hHeld.trans (SHlower hHeld.size hb_)
          refine ⟨_,rfl,hK.out _ _ hS_ (fun _ => ?_)⟩
          clear hK K
          have hHeld:=hS_
          clear hS_
          refine norm_ (a':=?_) ?_ ?_
          rotate_left
          · show Act.put _ (some 45) _ = _
            simp only [Act.put,List.setIfInBounds_toArray,List.set_cons_zero,List.set_cons_succ]
            rfl
          have hz_:=blk_below hz hb_
          clear hz hb_
          have hz:=hz_
          clear hz_
          refine pure_ (i:=22) (N:=some 46) (v:=?_) (a':=?_) #[true,true,true,true,true,true,true,true,true,true,true,true,true,true,true,true,true,true,true,true,true,true,true,true,false] rfl rfl (by kernel_rfl) (fun _ _ _ h => by cases h.1) (Or.inl ⟨by rfl,?_⟩) ?_ ?_
          rotate_left
          · intro w'
            go_simp
            with_reducible rfl
          rotate_left
          · simp only [Act.put,List.setIfInBounds_toArray,List.set_cons_zero,List.set_cons_succ]
            rfl
          refine norm_ (a':=_) ?_ (hcont z_ _ ⟨hz,hzl,hHeld⟩)
          simp only [putAll,Act.put,List.setIfInBounds_toArray,List.set_cons_zero,List.set_cons_succ]
      case cont =>
        rintro z W2 ⟨hz,hzl,hb⟩
        refine norm_ (a':=?_) ?_ ?_
        rotate_left
        · simp only [putAll,Act.put,List.setIfInBounds_toArray,List.set_cons_zero,List.set_cons_succ]
          rfl
        have z0:=blk_frozen hz 0
        have z1:=blk_frozen hz 1
        have z2:=blk_frozen hz 2
        have z3:=blk_frozen hz 3
        have z4:=blk_frozen hz 4
        have y0 : W2.cell? ⟨z,0,none⟩ = some (.int .u8 0):=blk_cell hz 0
        have y1 : W2.cell? ⟨z,1,none⟩ = some (.int .i64 0):=blk_cell hz 1
        have y2 : W2.cell? ⟨z,2,none⟩ = some (.string ⟨#[]⟩):=blk_cell hz 2
        have y3 : W2.cell? ⟨z,3,none⟩ = some (.int .i64 0):=blk_cell hz 3
        have y4 : W2.cell? ⟨z,4,none⟩ = some (.int .i64 0):=blk_cell hz 4
        have HZ:=Aside0.mk hz
        have HZL:=Aside0.mk hzl
        have HB3:=Aside0.mk hb
        clear hz hzl hb
        refine last_ (i:=24) (N:=none) #[true,true,true,true,true,true,true,true,true,true,true,true,true,true,true,true,true,true,true,true,true,true,true,true,true] rfl rfl (by kernel_rfl) (by decide) (fun K hK => ?_)
        refine skip_ (w1:=set5 W2 z (⟨bt a 0,numberF (a.extract 1 a.size),b,Lib.idxOfS kindL c,numberF d⟩ : RW)) rfl rfl ?_ ?_
        · unfold set5
          go_simp
        refine hK.out _ _ ?_
        clear hK K
        refine done_ (by kernel_rfl) ?_
        refine ⟨rfl,?_⟩
        rename_i hKK
        refine hKK _ _ ?_
        clear hKK
        have hz3:=set5_blk HZ.out (⟨bt a 0,numberF (a.extract 1 a.size),b,Lib.idxOfS kindL c,numberF d⟩ : RW)
        have hgz : g ≠ z:=by have h1:=HZL.out;have h2:=blk_lt HK2.out;omega
        have hk3 : (set5 W2 z (⟨bt a 0,numberF (a.extract 1 a.size),b,Lib.idxOfS kindL c,numberF d⟩ : RW)).heap[g]? = some (.cells #[.int .u8 0,.int .i64 0,.string ⟨#[]⟩,.int .i64 0,.int .i64 0] 31 (0,0)):=(set5_ne W2 z _ g hgz).trans (blk_below HK2.out HB3.out)
        have hb3 : Below w.heap.size w (set5 W2 z (⟨bt a 0,numberF (a.extract 1 a.size),b,Lib.idxOfS kindL c,numberF d⟩ : RW)):=set5_below (HB2.out.trans (SHlower HB2.out.size HB3.out)) (Nat.le_trans HB2.out.size HZL.out) _
        generalize hr : (⟨bt a 0,numberF (a.extract 1 a.size),b,Lib.idxOfS kindL c,numberF d⟩ : RW) = r at hz3 hk3 hb3 ⊢
        have e1 : bt a 0 = r.f0:=by rw [← hr]
        have e2 : numberF (a.extract 1 a.size) = r.f1:=by rw [← hr]
        have e3 : b = r.f2:=by rw [← hr]
        have e4 : Lib.idxOfS kindL c = r.f3:=by rw [← hr]
        have e5 : numberF d = r.f4:=by rw [← hr]
        clear HZ HZL HB3 HK2 HB2 HG2 HBT HF2
        generalize set5 W2 z r = W3 at hz3 hk3 hb3 ⊢
        have HG3:=Aside0.mk (HG.out.below hb3)
        go_upto_region 5 with (fail)
        refine wp_normal' ?_
        refine start_ (n:=5) (S:=fun w' => w'.heap[z]? = some (.cells #[.int .u8 r.f0,.int .i64 r.f1,.string r.f2,.int .i64 r.f3,.int .i64 r.f4] 31 (0,0)) ∧ w'.heap[g]? = some (.cells #[.int .u8 0,.int .i64 0,.string ⟨#[]⟩,.int .i64 0,.int .i64 0] 31 (0,0)) ∧ Below w.heap.size w w') (ds:=[3]) #[false,false,false,false,false] (by kernel_rfl) rfl rfl ⟨hz3,hk3,below_drew hb3⟩ (fun hHeld => ?_)
        refine take_ (i:=0) (N:=some 47) (v:=?_) (a':=?_) #[true,false,false,false,false] rfl rfl (by kernel_rfl) (fun _ _ _ h => by cases h.1) (Or.inl ⟨by rfl,?_⟩) hHeld ?_ ?_
        rotate_left
        · intro w' s_
          have t0 : w'.cell? ⟨z,0,none⟩ = some (.int .u8 r.f0):=blk_cell s_.1 0
          have t1 : w'.cell? ⟨z,1,none⟩ = some (.int .i64 r.f1):=blk_cell s_.1 1
          have t2 : w'.cell? ⟨z,2,none⟩ = some (.string r.f2):=blk_cell s_.1 2
          have t3 : w'.cell? ⟨z,3,none⟩ = some (.int .i64 r.f3):=blk_cell s_.1 3
          have t4 : w'.cell? ⟨z,4,none⟩ = some (.int .i64 r.f4):=blk_cell s_.1 4
          go_simp
          with_reducible rfl
        rotate_left
        · simp only [Act.put,List.setIfInBounds_toArray,List.set_cons_zero,List.set_cons_succ]
          rfl
        refine take_ (i:=1) (N:=some 48) (v:=?_) (a':=?_) #[true,true,false,false,false] rfl rfl (by kernel_rfl) (fun _ _ _ h => by cases h.1) (Or.inl ⟨by rfl,?_⟩) hHeld ?_ ?_
        rotate_left
        · intro w' s_
          have t0 : w'.cell? ⟨z,0,none⟩ = some (.int .u8 r.f0):=blk_cell s_.1 0
          have t1 : w'.cell? ⟨z,1,none⟩ = some (.int .i64 r.f1):=blk_cell s_.1 1
          have t2 : w'.cell? ⟨z,2,none⟩ = some (.string r.f2):=blk_cell s_.1 2
          have t3 : w'.cell? ⟨z,3,none⟩ = some (.int .i64 r.f3):=blk_cell s_.1 3
          have t4 : w'.cell? ⟨z,4,none⟩ = some (.int .i64 r.f4):=blk_cell s_.1 4
          go_simp
          with_reducible rfl
        rotate_left
        · simp only [Act.put,List.setIfInBounds_toArray,List.set_cons_zero,List.set_cons_succ]
          rfl
        refine one_ (i:=2) (N:=some 49) #[true,true,true,false,false] rfl rfl (by kernel_rfl) (by decide) (fun K hK => ?_)
        refine goes_ Tryd.func26 (by kernel_rfl) rfl #[.agg #[.int .u8 r.f0,.int .i64 r.f1,.string r.f2,.int .i64 r.f3,.int .i64 r.f4]] (by rfl) rfl rfl (by (try simp only [List.map_toArray,List.map_cons,List.map_nil]);first|done|rfl) ?_
        refine (may_calls (r:=r) (HG.out.below hHeld.2.2).kv).mono ?_
        rintro e_ w_ ⟨rfl,hb_⟩
        have hS_ : w_.heap[z]? = some (.cells #[.int .u8 r.f0,.int .i64 r.f1,.string r.f2,.int .i64 r.f3,.int .i64 r.f4] 31 (0,0)) ∧ w_.heap[g]? = some (.cells #[.int .u8 0,.int .i64 0,.string ⟨#[]⟩,.int .i64 0,.int .i64 0] 31 (0,0)) ∧ Below w.heap.size w w_:=⟨blk_below hHeld.1 hb_,blk_below hHeld.2.1 hb_,hHeld.2.2.trans (SHlower hHeld.2.2.size hb_)⟩
        refine ⟨_,rfl,hK.out _ _ hS_ (fun _ => ?_)⟩
        clear hK K
        have hHeld:=hS_
        clear hS_ hb_
        refine norm_ (a':=?_) ?_ ?_
        rotate_left
        · show Act.put _ (some 49) _ = _
          simp only [Act.put,List.setIfInBounds_toArray,List.set_cons_zero,List.set_cons_succ]
          rfl
        have HSF:=Aside0.mk hHeld
        have x0:=blk_frozen hHeld.2.1 0
        have x1:=blk_frozen hHeld.2.1 1
        have x2:=blk_frozen hHeld.2.1 2
        have x3:=blk_frozen hHeld.2.1 3
        have x4:=blk_frozen hHeld.2.1 4
        have y0 : w_.cell? ⟨g,0,none⟩ = some (.int .u8 0):=blk_cell hHeld.2.1 0
        have y1 : w_.cell? ⟨g,1,none⟩ = some (.int .i64 0):=blk_cell hHeld.2.1 1
        have y2 : w_.cell? ⟨g,2,none⟩ = some (.string ⟨#[]⟩):=blk_cell hHeld.2.1 2
        have y3 : w_.cell? ⟨g,3,none⟩ = some (.int .i64 0):=blk_cell hHeld.2.1 3
        have y4 : w_.cell? ⟨g,4,none⟩ = some (.int .i64 0):=blk_cell hHeld.2.1 4
        refine last_ (i:=3) (N:=none) #[true,true,true,true,false] rfl rfl (by kernel_rfl) (by decide) (fun K hK => ?_)
        refine skip_ (w1:=set5 w_ g r) rfl rfl ?_ ?_
        · unfold set5
          go_simp
        refine hK.out _ _ ?_
        clear hK K
        refine pure_ (i:=4) (N:=some 3) (v:=?_) (a':=?_) #[true,true,true,true,true] rfl rfl (by kernel_rfl) (fun _ _ _ h => by cases h.1) (Or.inl ⟨by rfl,?_⟩) ?_ ?_
        rotate_left
        · intro w'
          go_simp
          with_reducible rfl
        rotate_left
        · simp only [Act.put,List.setIfInBounds_toArray,List.set_cons_zero,List.set_cons_succ]
          rfl
        refine done_ (by kernel_rfl) ?_
        refine ⟨rfl,?_⟩
        rename_i hKK hOld_ hOld2_
        refine hKK _ _ ?_
        clear hKK
        go_wp2
        refine bodyPost_ret (results_ct (u:=3) (p:=2) rfl _ _ g 31 #[.int .u8 r.f0,.int .i64 r.f1,.string r.f2,.int .i64 r.f3,.int .i64 r.f4] (0,0) _ rfl (set5_blk HSF.out.2.1 r) Tryd.underlying31 rfl (by kernel_rfl)) rfl ?_
        rw [hr,e1,e2,e3,e4,e5]
        exact ⟨rfl,set5_below HSF.out.2.2 (Nat.le_of_eq HGE.out) r⟩
  · rw [rowF_no c1]
    have cb : (((fieldsF l).length : Int) == 4) = false:=beq_eq_false_iff_ne.mpr (by omega)
    generalize fieldsF l = fs at cb SC c1
    have cb2 : ¬ (fs.length : Int) = 4:=by omega
    have cb3 : ((fs.length : Int) != 4) = true:=by rw [bne,cb];rfl
    go_enter Tryd.func23,Tryd.ntmps23
    go_upto_region 2 with (go_at_call 32;refine (SC.out).mono ?_;rintro e w2 ⟨rfl,hw2⟩;have HB2:=Aside0.mk (show Below w.heap.size w w2 by rw [hw2];exact below_alloc HB.out _);have HK2:=Aside0.mk (show w2.heap[w.heap.size]? = some (.cells #[.int .u8 0,.int .i64 0,.string ⟨#[]⟩,.int .i64 0,.int .i64 0] 31 (0,0)) by rw [hw2];exact blk_alloc HK.out _);clear hw2)
    obtain ⟨g,hge⟩ : ∃ g,w.heap.size = g:=⟨_,rfl⟩
    rw [hge] at HK2 ⊢
    have HGE:=Aside0.mk hge
    clear hge
    have y0 : w2.cell? ⟨g,0,none⟩ = some (.int .u8 0):=(blk_cell HK2.out 0).trans rfl
    have y1 : w2.cell? ⟨g,1,none⟩ = some (.int .i64 0):=(blk_cell HK2.out 1).trans rfl
    have y2 : w2.cell? ⟨g,2,none⟩ = some (.string ⟨#[]⟩):=(blk_cell HK2.out 2).trans rfl
    have y3 : w2.cell? ⟨g,3,none⟩ = some (.int .i64 0):=(blk_cell HK2.out 3).trans rfl
    have y4 : w2.cell? ⟨g,4,none⟩ = some (.int .i64 0):=(blk_cell HK2.out 4).trans rfl
    have x0:=blk_frozen HK2.out 0
    have x1:=blk_frozen HK2.out 1
    have x2:=blk_frozen HK2.out 2
    have x3:=blk_frozen HK2.out 3
    have x4:=blk_frozen HK2.out 4
    go_wp2
    repeat (go_quiet (fail);try go_wp2)
    exact bodyPost_ret (results_ct (u:=3) (p:=2) rfl _ _ g 31 #[.int .u8 0,.int .i64 0,.string ⟨#[]⟩,.int .i64 0,.int .i64 0] (0,0) _ rfl (set5_blk HK2.out zR) Tryd.underlying31 rfl (by kernel_rfl)) rfl ⟨rfl,set5_below HB2.out (Nat.le_of_eq HGE.out) zR⟩
end Go.Proofs.YtifigmamaakigaaDoor.V

