import Derived.Test.YtifigmamaakigaaDoorBVMap
namespace Go.Proofs.YtifigmamaakigaaDoor.V
open Go Go.RowKit Go.Shelf Go.Lib Go.Sort Go.Proofs.YtifigmamaakigaaDoorW.PrintWords Go.Proofs.YtifigmamaakigaaDoorW.PrintLast Go.Proofs.YtifigmamaakigaaDoorW.PrintMore
set_option linter.unusedVariables false
set_option linter.unusedSimpArgs false
abbrev RM:={r : RW // mayB r = true}
theorem may0 : mayB ⟨98,0,⟨#[120]⟩,0,0⟩ = true:=by decide +kernel
instance : Inhabited RM:=⟨⟨_,may0⟩⟩
def encM (r : RM) : List Value:=encR r.1
def cfM (a b : RM) : Int:=ordF a.1 b.1
theorem may_lim {r : RW} (h : mayB r = true) : (0 ≤ r.f0 ∧ r.f0 < 256) ∧ (0 ≤ r.f1 ∧ r.f1 < 16384):=by
  unfold mayB at h
  simp only [Bool.and_eq_true,decide_eq_true_eq,Bool.or_eq_true,beq_iff_eq] at h
  omega
theorem ltM (a b : RM) : ltOf cfM a b = decide (kLt a.1.key b.1.key):=by
  unfold ltOf cfM
  by_cases h : kLt a.1.key b.1.key
  · rw [decide_eq_true h,decide_eq_true (ordF_lt.2 h)]
  · rw [decide_eq_false h,decide_eq_false (fun x => h (ordF_lt.1 x))]
theorem swoM : SWO (ltOf cfM) where
  irrefl x:=by rw [ltM];exact decide_eq_false (kLt.irrefl _)
  trans x y z h1 h2:=by
    rw [ltM] at *
    exact decide_eq_true ((of_decide_eq_true h1).trans (of_decide_eq_true h2))
  ntrans x y z h1 h2:=by
    rw [ltM] at *
    exact decide_eq_false (kLt.ntrans (of_decide_eq_false h1) (of_decide_eq_false h2))
theorem cmp_lays (blk off size : Nat) (w : World) : CmpLays Tryd.prog 14 #[] encM 5 cfM blk off size w:=by
  unfold CmpLays
  intro m os dk hs x y
  generalize sortWorldK encM 5 w blk off m dk os = W
  rw [Array.append_empty]
  have h1:=cmp_calls (w:=W) (a:=x.1) (b:=y.1) (may_lim x.2).1 (may_lim y.2).1 (may_lim x.2).2 (may_lim y.2).2
  refine Calls.mono h1 ?_
  rintro e w' ⟨h2,os,h3⟩
  exact ⟨h2,0,os,h3⟩
theorem take_cells {n : Nat} {L : List Value} {d : List RW} (hl : L.length = n * 5) (hn : d.length = n) (h : ∀ j r,d[j]? = some r → ∀ i,i < 5 → L[j * 5 + i]? = (encR r)[i]?) : ∀ j r,d[j]? = some r → (L.drop (j * 5)).take 5 = encR r:=by
  intro j r hj
  have hjl : j < n:=by have:=(List.getElem?_eq_some_iff.1 hj).1;omega
  have h5 : j * 5 + 5 ≤ L.length:=by omega
  apply List.ext_getElem?
  intro i
  by_cases hi : i < 5
  · rw [List.getElem?_take,if_pos hi,List.getElem?_drop,h j r hj i hi]
  · rw [List.getElem?_eq_none (by simp;omega),List.getElem?_eq_none (by rw [encR_len];omega)]
theorem sort_R {w : World} {base : Nat} {ok : Nat → Prop} {g n c : Nat} {xs : List RW} {W : World} {d d' : Array RM}
    (h : Kd.R kR 31 w base ok (.slice (some ⟨g,0,none⟩) n c) xs) (hd : d.size = xs.length) (hs : d'.size = d.size) {m : Nat} {os : Array Obj} (hW : W = sortWorldK encM 5 w g 0 m d' os) (hH : HoldsK encM 5 w g 0 d) :
    Kd.R kR 31 W base ok (.slice (some ⟨g,0,none⟩) n c) (d'.toList.map Subtype.val) ∧ w.grownBy W (some g):=by
  obtain ⟨h0,inner,⟨hlen,hv⟩,hr⟩:=h
  rcases hv with ⟨hv,_⟩|⟨g',cap,cur,hv,hg,hh,hnc,hcm,hcs,htake⟩
  · cases hv
  · injection hv with e1 e2 e3
    injection e1 with e1
    injection e1 with e1
    subst e1 e2 e3
    have hglt : g < w.heap.size:=(Array.getElem?_eq_some_iff.1 hh).1
    have hHW : HoldsK encM 5 W g 0 d':=by rw [hW];exact holdsK_sortWorldK_c encM 5 w g 0 d d' m os hH hglt hs
    have hgrown : w.grownBy W (some g):=by
      subst hW
      unfold sortWorldK putRowK putRow mapBlock grow
      refine ⟨rfl,rfl,rfl,?_,?_⟩
      · simp [ahead]
      · intro k hk hne
        have hne : ¬ g = k:=fun e => hne (by rw [e])
        show ((Go.Sort.ahead w m).heap.modify g _ ++ os)[k]? = _
        rw [Array.getElem?_append_left (by simp [ahead];exact hk),Array.getElem?_modify,if_neg hne]
        rfl
    have hblk : ∃ cur' : Array Value,W.heap[g]? = some (.cells cur' 31 (0,0)) ∧ cur'.size = cur.size:=by
      subst hW
      refine ⟨putCells id 0 (flatK encM 5 d') cur,?_,by simp [putCells]⟩
      unfold sortWorldK putRowK putRow mapBlock grow
      show ((Go.Sort.ahead w m).heap.modify g _ ++ os)[g]? = _
      rw [Array.getElem?_append_left (by simp [ahead];exact hglt),Array.getElem?_modify,if_pos rfl]
      show Option.map _ w.heap[g]? = _
      rw [hh]
      rfl
    obtain ⟨cur',hb',hs'⟩:=hblk
    have hsz : d'.size = xs.length:=by omega
    have hml : (d'.toList.map Subtype.val).length = xs.length:=by simp [hsz]
    refine ⟨⟨h0,cur'.toList.take (xs.length * 5),⟨?_,.inr ⟨g,c,cur',?_,hg,hb',?_,hcm,by omega,?_⟩⟩,?_⟩,hgrown⟩
    · rw [hml,List.length_take]
      have hxs : xs.length ≤ c:=hnc
      have : cur'.toList.length = c * 5:=hs'.trans hcs
      rw [this]
      exact Nat.min_eq_left (Nat.mul_le_mul_right 5 hxs)
    · rw [hml]
    · rw [hml];exact hnc
    · rw [hml];rfl
    · have hL : (cur'.toList.take (xs.length * 5)).length = xs.length * 5:=by
        have : cur'.toList.length = c * 5:=hs'.trans hcs
        rw [List.length_take,this]
        exact Nat.min_eq_left (Nat.mul_le_mul_right 5 hnc)
      refine ⟨by rw [hml];exact hL,fun j r hj => ?_⟩
      have:=take_cells hL hml (fun j r hj i hi => ?_) j r hj
      · show kR.M W base _ r (((cur'.toList.take (xs.length * 5)).drop (j * 5)).take 5)
        rw [this]
        exact kR_mkM _ _ _ _
      · have hjl : j < d'.size:=by have:=(List.getElem?_eq_some_iff.1 hj).1;simpa using this
        have hlt : j * 5 + i < d'.size * 5:=by omega
        have hc:=(hHW (j * 5 + i) (by rw [size_flatK];exact hlt)).1
        rw [get_flatK _ _ _ _ hlt,Nat.zero_add,blk_cell hb' (j * 5 + i),show (j * 5 + i) / 5 = j by omega,show (j * 5 + i) % 5 = i by omega] at hc
        have hr : r = (d'[j]!).1:=by
          rw [getElem!_pos d' j hjl]
          rw [List.getElem?_map,Array.getElem?_toList,Array.getElem?_eq_getElem hjl] at hj
          injection hj with hj
          exact hj.symm
        rw [List.getElem?_take,if_pos (by omega),Array.getElem?_toList,hc,hr]
        have : i < (encM d'[j]!).length:=hi
        rw [getElem!_pos (encM d'[j]!) i this]
        exact (List.getElem?_eq_getElem this).symm
set_option maxHeartbeats 2000000 in
set_option maxRecDepth 100000 in
theorem sort_none {w : World} {A : Option Addr} {c : Nat} {fv : Value} : Calls Tryd.prog 13 #[.slice A 0 c,fv] w fun e w' => e = .returned (.tuple #[]) ∧ w' = w:=by
  have IC : ∀ W,Calls Tryd.prog 39 #[.slice A 0 c,.int .i64 0,.int .i64 0,fv] W fun e w' => e = .returned (.tuple #[]) ∧ w' = W:=by
    intro W
    go_enter Tryd.func39,Tryd.ntmps39
    go_wp2
    refine wp_loop_rounds 1 ?_
    rw [rounds_succ]
    go_wp2
    go_end0
    exact ⟨rfl,rfl⟩
  have PC : ∀ lim W,Calls Tryd.prog 27 #[.slice A 0 c,.int .i64 0,.int .i64 0,.int .i64 lim,fv] W fun e w' => e = .returned (.tuple #[]) ∧ w' = W:=by
    intro lim W
    go_enter Tryd.func27,Tryd.ntmps27
    go_wp2
    refine wp_loop_rounds 1 ?_
    rw [rounds_succ]
    go_wp2_with (go_at_call 39;refine (IC _).mono ?_;rintro e w' ⟨rfl,rfl⟩)
    (try simp only [Exit.inBlock,Exit.then]);refine bodyPost_ret (results_none rfl _ _ _) rfl ?_
    exact ⟨rfl,rfl⟩
  have LC : ∀ W,Calls Tryd.prog 28 #[.int .u64 0] W fun e w' => e = .returned (.int .i64 (Lib.bitLen 0 : Nat)) ∧ w' = W:=fun W => Tryd.bits_Len 0 W (by omega) (by omega)
  go_enter Tryd.func13,Tryd.ntmps13
  go_wp2_with (first|(go_at_call 28;refine (LC _).mono ?_;rintro e w' ⟨rfl,rfl⟩)|(go_at_call 27;refine (PC _ _).mono ?_;rintro e w' ⟨rfl,rfl⟩))
  go_end0
  exact ⟨rfl,rfl⟩
theorem sort_calls {w : World} {base : Nat} {ok : Nat → Prop} {v : Value} {d : List RM} (h : Kd.R kR 31 w base ok v (d.map Subtype.val)) (hsz : d.length ≤ 16384) :
    Calls Tryd.prog 13 #[v,.func (.func 14) #[] #[]] w fun e w' => e = .returned (.tuple #[]) ∧ ∃ d' : List RM,d'.Perm d ∧ d'.Pairwise (fun a b => ¬ kLt b.1.key a.1.key) ∧ Kd.R kR 31 w' base ok v (d'.map Subtype.val) ∧ w.grownBy w' v.ownBlock:=by
  obtain ⟨A,c,rfl⟩:=Kd.R_slice h
  rw [List.length_map] at h ⊢
  by_cases hd : d = []
  · subst hd
    refine (sort_none (A:=A) (c:=c)).mono ?_
    rintro e w' ⟨h1,rfl⟩
    exact ⟨h1,[],List.Perm.nil,List.Pairwise.nil,h,⟨rfl,rfl,rfl,Nat.le_refl _,fun _ _ _ => rfl⟩⟩
  · have hA : ∃ g,A = some ⟨g,0,none⟩:=by
      obtain ⟨_,inner,⟨_,hv⟩,_⟩:=h
      rcases hv with ⟨hv,hn⟩|⟨g,cap,cur,hv,_⟩
      · rw [List.length_map] at hn
        exact absurd (List.length_eq_zero_iff.1 hn) hd
      · injection hv with hv
        exact ⟨g,hv⟩
    obtain ⟨g,rfl⟩:=hA
    have hC : Kd.C kR w (some ⟨g,0,none⟩) (d.map Subtype.val).length (d.map Subtype.val):=by
      obtain ⟨A',c',e,_,hC⟩:=Kd.R_reads h
      injection e with e1 e2 e3
      rw [← e1] at hC
      exact hC
    obtain ⟨b,off,e,hb,hcell⟩:=rows_cells hC (fun e => hd (List.map_eq_nil_iff.1 e))
    injection e with e
    injection e with e1 e2
    subst e1 e2
    have hcell : ∀ j,j < d.length → ∀ i v,(encM (d.toArray)[j]!)[i]? = some v → w.cell? ⟨g,0 + j * 5 + i,none⟩ = some v:=by
      intro j hj i v hv
      refine hcell j (by rw [List.length_map];exact hj) i v ?_
      rw [getElem!_pos d.toArray j hj] at hv
      rw [getElem!_pos (d.map Subtype.val) j (by rw [List.length_map];exact hj)]
      simpa [encM] using hv
    have hfz : ∀ i,w.frozen? ⟨g,i,none⟩ = false:=by
      obtain ⟨_,inner,⟨_,hv⟩,_⟩:=h
      rcases hv with ⟨hv,_⟩|⟨g',cap,cur,hv,_,hh,_⟩
      · cases hv
      · injection hv with hv
        injection hv with hv
        injection hv with hv
        subst hv
        exact fun i => blk_frozen hh i
    have hH : HoldsK encM 5 w g 0 d.toArray:=by
      intro t ht
      rw [size_flatK] at ht
      have ht : t < d.length * 5:=ht
      refine ⟨?_,hfz _⟩
      rw [get_flatK _ _ _ _ ht]
      have hlt : t % 5 < (encM d.toArray[t / 5]!).length:=by show t % 5 < 5;omega
      have:=hcell (t / 5) (by omega) (t % 5) _ (List.getElem?_eq_getElem hlt)
      rw [show 0 + t / 5 * 5 + t % 5 = 0 + t by omega] at this
      rw [this]
      have e5:=getElem!_pos (encM d.toArray[t / 5]!) (t % 5) hlt
      exact congrArg some e5.symm
    have:=AnyQ.slices_SortFunc Tryd.laysSF 5 Tryd.isAgg31 Tryd.sizeOf31 encM (fun _ => rfl) (fun x => encR_one x.1) cfM swoM 14 #[] g 0 c d.toArray w (enters_of Tryd.func14 (by kernel_rfl) rfl) (cmp_lays g 0 _ w) hH hb (by show d.length < _;omega)
    refine Calls.mono this ?_
    rintro e w' ⟨h1,d',n,os,⟨hs,_,hperm⟩,hsort,hw⟩
    obtain ⟨r1,r2⟩:=sort_R h (by simp) hs hw hH
    have e1 : d'.toList.Perm d:=by
      have hs' : d'.size = d.length:=hs
      have a1 : d'.extract 0 d.toArray.size = d':=by rw [← hs];exact Array.extract_size ..
      have a2 : d.toArray.extract 0 d.toArray.size = d.toArray:=Array.extract_size ..
      rw [a1,a2] at hperm
      exact hperm
    refine ⟨h1,d'.toList,e1,?_,r1,r2⟩
    rw [List.pairwise_iff_getElem]
    intro i j hi hj hij
    have:=hsort i j (Nat.zero_le _) hij (by rw [← hs];simpa using hj)
    rw [ltM,getElem!_pos d' j (by simpa using hj),getElem!_pos d' i (by simpa using hi)] at this
    simpa using of_decide_eq_false this
end Go.Proofs.YtifigmamaakigaaDoor.V

