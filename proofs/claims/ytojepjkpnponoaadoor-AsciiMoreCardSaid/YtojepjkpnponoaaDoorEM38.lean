import Derived.Test.YtojepjkpnponoaaDoorEM37
import Derived.Test.YtojepjkpnponoaaDoorEM20
import Derived.Test.YtojepjkpnponoaaDoorEM7
section
namespace Go.Proofs.YtojepjkpnponoaaDoor.Asc
open Go Go.RowKit Go.Proofs.YtojepjkpnponoaaDoorW.PrintWords
set_option linter.unusedVariables false
set_option linter.unusedSimpArgs false
theorem consC_app (l : ByteArray) (a : List S59) (b : List ByteArray) (r : Except Nat (List S59 × List ByteArray)) : consC l (appT a b r) = appT a (l :: b) r:=by
  cases r with
  | error e => rfl
  | ok x => rfl
theorem consS_app (l : S59) (a : List S59) (b : List ByteArray) (r : Except Nat (List S59 × List ByteArray)) : consS l (appT a b r) = appT (l :: a) b r:=by
  cases r with
  | error e => rfl
  | ok x => rfl
theorem tail_app {s t : ByteArray} {u : List UInt8} (ht : App s t u) : ∀ (k p : Nat) (n : Bool) (a : List S59) (b : List ByteArray),tailGo s k p n = .ok (a,b) → p ≤ s.size →
    tailGo t (t.size + 1) p n = appT a b (tailGo t (t.size + 1) s.size (tailNo s k p n))
  | 0,p,n,a,b,h,hp => by
    unfold tailGo at h
    cases h
  | k + 1,p,n,a,b,h,hp => by
    have hsz:=ht.size
    unfold tailGo at h
    unfold tailNo
    by_cases he : s.size ≤ p
    · rw [if_pos he] at h ⊢
      injection h with h
      injection h with h1 h2
      subst h1
      subst h2
      rw [appT_nil]
      exact congrArg (fun x => tailGo t (t.size + 1) x n) (by omega)
    · rw [if_neg he] at h ⊢
      cases hq : lineF s p with
      | none => rw [hq] at h;cases h
      | some y =>
        obtain ⟨l,q⟩:=y
        have hf:=lineF_fwd hq
        have ih:=fun n a b h => tail_app ht k q n a b h hf.2
        rw [hq] at h
        dsimp only at h ⊢
        conv => lhs;unfold tailGo
        rw [if_neg (by omega),line_app ht hq]
        dsimp only
        cases n with
        | true =>
          rw [if_pos rfl] at h ⊢
          rw [if_pos rfl]
          cases hg : tailGo s k q true with
          | error e => rw [hg] at h;cases h
          | ok z =>
            obtain ⟨z1,z2⟩:=z
            rw [hg] at h
            injection h with h
            injection h with h1 h2
            subst h1
            subst h2
            rw [tailGo_fuel t t.size (t.size + 1) q true (by omega) (by omega) (by omega),ih true z1 z2 hg,consC_app]
        | false =>
          rw [if_neg (show ¬ (false = true) from Bool.noConfusion)] at h ⊢
          rw [if_neg (show ¬ (false = true) from Bool.noConfusion)]
          by_cases hc : l = cB
          · rw [if_pos hc] at h ⊢
            rw [if_pos hc,tailGo_fuel t t.size (t.size + 1) q true (by omega) (by omega) (by omega)]
            exact ih true a b h
          · rw [if_neg hc] at h ⊢
            rw [if_neg hc]
            by_cases hs : (symF l).2 = false
            · rw [if_pos hs] at h
              cases h
            · rw [if_neg hs] at h ⊢
              cases hg : tailGo s k q false with
              | error e => rw [hg] at h;cases h
              | ok z =>
                obtain ⟨z1,z2⟩:=z
                rw [hg] at h
                injection h with h
                injection h with h1 h2
                subst h1
                subst h2
                rw [tailGo_fuel t t.size (t.size + 1) q false (by omega) (by omega) (by omega),ih false z1 z2 hg,consS_app]
theorem tail_one {t : ByteArray} {p : Nat} {clean : List UInt8} (hp : p ≤ t.size) (h : t.data.toList.drop p = clean ++ [10]) (hno : (10 : UInt8) ∉ clean) (k : Nat) : tailGo t (k + 2) p true = .ok ([],[⟨clean.toArray⟩]):=by
  have hlen : t.size - p = clean.length + 1:=by
    have:=congrArg List.length h
    rw [List.length_drop,data_length,List.length_append] at this
    simpa using this
  have hget : ∀ j,t.data.toList[p + j]? = (clean ++ [10])[j]?:=fun j => by rw [← h,List.getElem?_drop]
  have hl : lineF t p = some (⟨clean.toArray⟩,t.size):=by
    rw [lineF_at (i:=p + clean.length) (by omega) (by rw [hget,List.getElem?_append_right (Nat.le_refl _),Nat.sub_self];rfl) (fun j h1 h2 h3 => by
      have e : j = p + (j - p):=by omega
      rw [e,hget,List.getElem?_append_left (by omega)] at h3
      exact hno (List.mem_of_getElem? h3))]
    have e1 : t.extract p (p + clean.length) = ⟨clean.toArray⟩:=by
      rw [← Stim.bytesA_data (t.extract p (p + clean.length)),Stim.extract_list,h,show p + clean.length - p = clean.length by omega,List.take_left']
      · rfl
      · rfl
    rw [e1,show p + clean.length + 1 = t.size by omega]
  unfold tailGo
  rw [if_neg (by omega),hl]
  dsimp only
  rw [if_pos rfl]
  unfold tailGo
  rw [if_pos (Nat.le_refl _)]
  rfl
theorem tail_two {t : ByteArray} {p : Nat} {clean : List UInt8} (hp : p ≤ t.size) (h : t.data.toList.drop p = 99 :: 10 :: (clean ++ [10])) (hno : (10 : UInt8) ∉ clean) (k : Nat) : tailGo t (k + 3) p false = .ok ([],[⟨clean.toArray⟩]):=by
  have hlen : t.size - p = clean.length + 3:=by
    have:=congrArg List.length h
    rw [List.length_drop,data_length] at this
    simpa using this
  have hget : ∀ j,t.data.toList[p + j]? = (99 :: 10 :: (clean ++ [10]))[j]?:=fun j => by rw [← h,List.getElem?_drop]
  have hl : lineF t p = some (cB,p + 2):=by
    rw [lineF_at (i:=p + 1) (by omega) (by rw [hget];rfl) (fun j h1 h2 h3 => by
      have e : j = p + 0:=by omega
      rw [e,hget] at h3
      exact absurd h3 (by simp))]
    have e1 : t.extract p (p + 1) = cB:=by
      rw [← Stim.bytesA_data (t.extract p (p + 1)),Stim.extract_list,h,show p + 1 - p = 1 by omega]
      rfl
    rw [e1]
  have h2 : t.data.toList.drop (p + 2) = clean ++ [10]:=by
    rw [← List.drop_drop,h]
    rfl
  unfold tailGo
  rw [if_neg (by omega),hl]
  dsimp only
  rw [if_neg Bool.noConfusion,if_pos rfl]
  exact tail_one (by omega) h2 hno k
theorem nlF_snoc {y : ByteArray} (hy : ¬ 0 ≤ idxF 10 (byteInts y) 0) : ∀ (b : List ByteArray) (i : Nat),¬ 0 ≤ nlF b i → ¬ 0 ≤ nlF (b ++ [y]) i
  | [],i,h => by
    show ¬ 0 ≤ nlF [y] i
    unfold nlF
    rw [if_neg hy]
    exact h
  | a :: b,i,h => by
    rw [List.cons_append]
    unfold nlF at h ⊢
    split
    · rename_i h0
      rw [if_pos h0] at h
      exact h
    · rename_i h0
      rw [if_neg h0] at h
      exact nlF_snoc hy b (i + 1) h
theorem idxF_no (v : Int) : ∀ (l : List Int) (i : Nat),v ∉ l → ¬ 0 ≤ idxF v l i
  | [],i,h => by simp [idxF]
  | a :: l,i,h => by
    unfold idxF
    rw [if_neg (fun e => by subst e;exact h (List.mem_cons_self ..))]
    exact idxF_no v l (i + 1) (fun h1 => h (List.mem_cons_of_mem _ h1))
theorem clean_idx {clean : List UInt8} (hno : (10 : UInt8) ∉ clean) : ¬ 0 ≤ idxF 10 (byteInts ⟨clean.toArray⟩) 0:=by
  apply idxF_no
  unfold byteInts
  intro h
  obtain ⟨b,hb,e⟩:=List.mem_map.1 h
  have : b = 10:=UInt8.toNat_inj.1 (by show b.toNat = 10;omega)
  subst this
  exact hno hb
theorem look_more {c0 : Int} {c1 : List Int} {c2 : List S108} {c3 c4 c5 : List Int} {c6 : List (List Int)} {c7 : List Int} {c8 : List S125} {c9 : List S59} {b : List ByteArray} {y : ByteArray} (h : (lookF ⟨c0,c1,c2,c3,c4,c5,c6,c7,c8,c9,b⟩).2 = 0) (hb : b.length ≤ 1000) (hy : ¬ 0 ≤ idxF 10 (byteInts y) 0) : (lookF ⟨c0,c1,c2,c3,c4,c5,c6,c7,c8,c9,b ++ [y]⟩).2 = 0:=by
  have hs : sizesF ⟨c0,c1,c2,c3,c4,c5,c6,c7,c8,c9,b⟩ = 0 → sizesF ⟨c0,c1,c2,c3,c4,c5,c6,c7,c8,c9,b ++ [y]⟩ = 0:=by
    unfold sizesF sizeList
    intro h0
    split at h0
    · cases h0
    · rename_i h1
      rw [if_neg h1]
      split at h0
      · cases h0
      · rename_i h2
        split at h0
        · cases h0
        · rename_i h3
          rw [if_neg,if_neg h3]
          simp only [List.any_cons,List.any_nil,Bool.or_false,Bool.or_eq_true,decide_eq_true_eq,not_or,List.length_append,List.length_singleton] at h2 ⊢
          omega
  unfold lookF at h ⊢
  by_cases h1 : sizesF ⟨c0,c1,c2,c3,c4,c5,c6,c7,c8,c9,b⟩ ≠ 0
  · rw [if_pos h1] at h
    exact absurd h h1
  rw [if_neg h1] at h
  rw [if_neg (by rw [hs (by omega)];simp)]
  have hd : definesF ⟨c0,c1,c2,c3,c4,c5,c6,c7,c8,c9,b ++ [y]⟩ (by0 ⟨c0,c1,c2,c3,c4,c5,c6,c7,c8,c9,b ++ [y]⟩) = definesF ⟨c0,c1,c2,c3,c4,c5,c6,c7,c8,c9,b⟩ (by0 ⟨c0,c1,c2,c3,c4,c5,c6,c7,c8,c9,b⟩):=rfl
  rw [hd]
  generalize definesF ⟨c0,c1,c2,c3,c4,c5,c6,c7,c8,c9,b⟩ (by0 ⟨c0,c1,c2,c3,c4,c5,c6,c7,c8,c9,b⟩) = D at h ⊢
  have hu : usesF ⟨c0,c1,c2,c3,c4,c5,c6,c7,c8,c9,b ++ [y]⟩ D.2.2 = usesF ⟨c0,c1,c2,c3,c4,c5,c6,c7,c8,c9,b⟩ D.2.2:=rfl
  rw [hu]
  by_cases h2 : D.2.1 ≠ 0
  · rw [if_pos h2] at h
    exact absurd h h2
  rw [if_neg h2] at h ⊢
  by_cases h3 : (usesF ⟨c0,c1,c2,c3,c4,c5,c6,c7,c8,c9,b⟩ D.2.2).2 ≠ 0
  · rw [if_pos h3] at h
    exact absurd h h3
  rw [if_neg h3] at h ⊢
  unfold lookTail at h ⊢
  dsimp only at h ⊢
  by_cases h4 : 0 ≤ cycleF D.2.2 c8
  · rw [if_pos h4] at h
    cases h
  rw [if_neg h4] at h ⊢
  have hy2 : ∀ (l : List S59) (i : Nat) (seen : List S40),symbolsF ⟨c0,c1,c2,c3,c4,c5,c6,c7,c8,c9,b ++ [y]⟩ l i seen = symbolsF ⟨c0,c1,c2,c3,c4,c5,c6,c7,c8,c9,b⟩ l i seen:=by
    intro l
    induction l with
    | nil => intro i seen;rfl
    | cons a l ih =>
      intro i seen
      unfold symbolsF
      rw [ih]
      rfl
  rw [hy2]
  by_cases h5 : 0 ≤ symbolsF ⟨c0,c1,c2,c3,c4,c5,c6,c7,c8,c9,b⟩ c9 0 []
  · rw [if_pos h5] at h
    cases h
  rw [if_neg h5] at h ⊢
  by_cases h6 : 0 ≤ nlF b 0
  · rw [if_pos h6] at h
    cases h
  rw [if_neg (nlF_snoc hy b 0 h6)]
theorem more_read {s t : ByteArray} {clean : List UInt8} {x : S65} (hr : readF s = (x,0,0)) (hz : t.size ≤ 262144) (hc : x.f10.length ≤ 1000) (hno : (10 : UInt8) ∉ clean)
    (ht : App s t (if notedF s = true then clean ++ [10] else 99 :: 10 :: (clean ++ [10]))) : readF t = ({ x with f10:=x.f10 ++ [⟨clean.toArray⟩] },0,0):=by
  have hsz:=ht.size
  unfold readF at hr ⊢
  by_cases h1 : (headF s).2.2.2 ≠ 0
  · rw [if_pos h1] at hr
    injection hr with _ hr
    injection hr with _ hr
    exact absurd hr h1
  rw [if_neg h1] at hr
  by_cases h2 : (headF s).1 ≠ aagB
  · rw [if_pos h2] at hr
    injection hr with _ hr
    injection hr with _ hr
    cases hr
  rw [if_neg h2] at hr
  obtain ⟨word,k,e,z,hh⟩ : ∃ word k e z,headF s = (word,k,e,z):=⟨_,_,_,_,rfl⟩
  rw [hh] at h1 h2 hr
  dsimp only at h1 h2 hr
  obtain rfl : z = 0:=by omega
  obtain ⟨hht,l0,hl0,hl0c⟩:=head_app ht hz hh
  have hk:=head_ok hh
  rw [hht]
  dsimp only
  rw [if_neg h1,if_neg h2]
  have hB:=bodyN_rd s (k.getD 0 0).toNat (k.getD 1 0).toNat (k.getD 2 0).toNat (k.getD 3 0).toNat (k.getD 4 0).toNat (k.getD 5 0).toNat (k.getD 6 0).toNat (k.getD 7 0).toNat (k.getD 8 0).toNat e.toNat (by have:=hk.place;omega)
  have hA:=bodyN_app ht (k.getD 0 0).toNat (k.getD 1 0).toNat (k.getD 2 0).toNat (k.getD 3 0).toNat (k.getD 4 0).toNat (k.getD 5 0).toNat (k.getD 6 0).toNat (k.getD 7 0).toNat (k.getD 8 0).toNat e.toNat
  cases hb : bodyN s (k.getD 0 0).toNat (k.getD 1 0).toNat (k.getD 2 0).toNat (k.getD 3 0).toNat (k.getD 4 0).toNat (k.getD 5 0).toNat (k.getD 6 0).toNat (k.getD 7 0).toNat (k.getD 8 0).toNat e.toNat with
  | error e =>
    rw [hb] at hr
    injection hr with _ hr
    injection hr with _ hr
    cases hr
  | ok y =>
    obtain ⟨c,q⟩:=y
    obtain ⟨hbt,hrun⟩:=hA c q hb
    rw [hb] at hB hr
    have hq:=hB.1
    rw [hbt]
    have hn : notedF s = notedL s (s.size + 1) q:=by
      rw [← run_noted hrun]
      unfold notedF
      conv => lhs;unfold notedL
      rw [hl0]
      dsimp only
      rw [if_neg hl0c]
      have hf:=lineF_fwd hl0
      exact notedL_fuel s _ _ _ (by omega) (by omega)
    unfold readBody readEnd at hr ⊢
    dsimp only at hr ⊢
    by_cases h3 : (tailF s q).2.2.2 ≠ 0
    · rw [if_pos h3] at hr
      injection hr with _ hr
      injection hr with _ hr
      exact absurd hr h3
    rw [if_neg h3] at hr
    by_cases h4 : (lookF { c with f9:=(tailF s q).1,f10:=(tailF s q).2.1 }).2 ≠ 0
    · rw [if_pos h4] at hr
      injection hr with _ hr
      injection hr with _ hr
      exact absurd hr h4
    rw [if_neg h4] at hr
    have h4 : (lookF { c with f9:=(tailF s q).1,f10:=(tailF s q).2.1 }).2 = 0:=Decidable.not_not.1 h4
    injection hr with hx _
    subst hx
    dsimp only at hc ⊢
    have hts : ∃ a b,tailGo s (s.size + 1) q false = .ok (a,b) ∧ tailF s q = (a,b,0,0):=by
      unfold tailF at h3 ⊢
      rw [if_neg (by omega),if_neg (by omega)] at h3 ⊢
      rw [Int.toNat_natCast] at h3 ⊢
      cases hg : tailGo s (s.size + 1) q false with
      | error e =>
        rw [hg] at h3
        exact absurd (fun h : (42 : Int) = 0 => by cases h) h3
      | ok z => exact ⟨z.1,z.2,rfl,rfl⟩
    obtain ⟨a,b,hg,htf⟩:=hts
    rw [htf] at h4 hc ⊢
    dsimp only at h4 hc ⊢
    have hta:=tail_app ht (s.size + 1) q false a b hg hq
    rw [tailNo_noted s (s.size + 1) q (a,b) hg,← hn] at hta
    have hdrop : t.data.toList.drop s.size = (if notedF s = true then clean ++ [10] else 99 :: 10 :: (clean ++ [10])):=by
      rw [ht,List.drop_append_of_le_length (by rw [data_length];exact Nat.le_refl _),List.drop_of_length_le (by rw [data_length];exact Nat.le_refl _),List.nil_append]
    have hend : tailGo t (t.size + 1) s.size (notedF s) = .ok ([],[⟨clean.toArray⟩]):=by
      cases hN : notedF s with
      | true =>
        rw [hN,if_pos rfl] at hdrop hsz
        obtain ⟨k2,hk2⟩ : ∃ k2,t.size + 1 = k2 + 2:=⟨t.size - 1,by rw [List.length_append] at hsz;simp at hsz;omega⟩
        rw [hk2]
        exact tail_one (by omega) hdrop hno k2
      | false =>
        rw [hN,if_neg Bool.noConfusion] at hdrop hsz
        obtain ⟨k2,hk2⟩ : ∃ k2,t.size + 1 = k2 + 3:=⟨t.size - 2,by simp at hsz;omega⟩
        rw [hk2]
        exact tail_two (by omega) hdrop hno k2
    rw [hend] at hta
    have htt : tailF t q = (a,b ++ [⟨clean.toArray⟩],0,0):=by
      unfold tailF
      rw [if_neg (by omega),if_neg (by omega),Int.toNat_natCast,hta]
      simp [appT]
    rw [htt]
    dsimp only
    rw [if_neg (by decide)]
    have hl:=look_more h4 hc (clean_idx hno)
    rw [if_neg (fun h => h hl)]
end Go.Proofs.YtojepjkpnponoaaDoor.Asc
end
section
namespace Go.Proofs.YtojepjkpnponoaaDoor.Asc
open Go Go.RowKit Go.Proofs.YtojepjkpnponoaaDoorW.PrintWords Go.Proofs.YtojepjkpnponoaaDoorW.PrintLast Go.Proofs.YtojepjkpnponoaaDoorW.PrintMore
set_option linter.unusedVariables false
set_option linter.unusedSimpArgs false
set_option maxHeartbeats 1000000 in
set_option maxRecDepth 100000 in
theorem eq62 {w : World} {A B : Option Addr} {n m : Nat} {l : List (List Int)} (hn : l.length ≤ 9223372036854775806) (hl : ∀ r ∈ l,r.length ≤ 9223372036854775806) (hA : (Kd.slice 3 (Kd.int .i64)).C w A l.length l) (hB : (Kd.slice 3 (Kd.int .i64)).C w B l.length l) :
    Calls Tryd.prog 62 #[.slice A l.length n,.slice B l.length m,.func (.func 63) #[] #[]] w fun e w' => e = .returned (.bool true) ∧ Drawn0 w w':=by
  have HN:=Aside0.mk hn
  have HL:=Aside0.mk hl
  have HA:=Aside0.mk hA
  have HB:=Aside0.mk hB
  clear hA hB hn hl
  go_enter Tryd.func62,Tryd.ntmps62
  go_wp2
  (try simp only [Act.put,List.setIfInBounds_toArray,List.set_cons_zero,List.set_cons_succ])
  go_loopg [17] (l.length + 1) (fun kq v17 w' => ∃ x : Int,v17 = .int .i64 x ∧ Aside0 (x + (kq : Int) = (l.length : Int) + 1) ∧ Aside0 (0 ≤ x ∧ x ≤ (l.length : Int) ∧ l.length ≤ 9223372036854775806) ∧ Drawn0 w w')
  case atStart => exact ⟨0,rfl,⟨by push_cast;omega⟩,⟨by have:=HN.out;omega⟩,Drawn0.refl _⟩
  case round =>
    obtain ⟨x,rfl,HK,HKN,⟨m1,rfl⟩⟩:=hrel
    by_cases ck : x < (l.length : Int)
    · obtain ⟨g1,rfl⟩ : ∃ g1,gk = g1 + 1:=by
        cases gk with
        | zero => have:=HK.out;omega
        | succ g1 => exact ⟨g1,rfl⟩
      have p1 : 0 ≤ x:=HKN.out.1
      have q1 : x < (l.length : Int):=ck
      obtain ⟨ad1,A0,c0,e1,h1,h11,h12⟩:=at_L2 HA.out x p1 q1
      cases e1
      obtain ⟨ad2,B0,d0,e2,h2,h21,h22⟩:=at_L2 HB.out x p1 q1
      cases e2
      have HW:=Aside0.mk (show wrap64 (x + 1) = x + 1 from IntWalk.wrap64_in _ (by have:=HKN.out;omega))
      have ckb : decide (x < (l.length : Int)) = true:=decide_eq_true q1
      have ckc : decide (0 ≤ x) = true:=decide_eq_true p1
      have HRL:=Aside0.mk (show (rd_L2 l x).length ≤ 9223372036854775806 from HL.out _ (by
        have e : rd_L2 l x = l[x.toNat]'(by omega):=by unfold rd_L2;simp [List.getD_eq_getElem?_getD,List.getElem?_eq_getElem (show x.toNat < l.length by omega)]
        rw [e]
        exact List.getElem_mem _))
      replace p1:=eq_true p1
      replace q1:=eq_true q1
      clear ck
      go_wp2_with (go_at_call 63;(refine (eq63 HRL.out (Kd.C_drewN h12 m1) (Kd.C_drewN h22 m1)).mono ?_;rintro e w' ⟨rfl,⟨nd,rfl⟩⟩))
      go_roundg g1
      case measure => omega
      case rel => exact ⟨wrap64 (x + 1),rfl,⟨by rw [HW.out];have:=HK.out;push_cast at this;omega⟩,⟨by rw [HW.out];have:=HKN.out;have:=of_decide_eq_true ckb;omega⟩,by repeat (first|exact Drawn0.refl _|apply Drawn0.step)⟩
    · have ckb : decide (x < (l.length : Int)) = false:=decide_eq_false ck
      clear ck
      go_wp2
      repeat (go_quiet (fail);try go_wp2)
      go_ret
      exact ⟨by simp,by repeat (first|exact Drawn0.refl _|apply Drawn0.step)⟩
set_option maxHeartbeats 4000000 in
set_option maxRecDepth 100000 in
theorem same_calls {w : World} {y0 : Int} {y1 : List Int} {y2 : List S108} {y3 y4 y5 : List Int} {y6 : List (List Int)} {y7 : List Int} {y8 : List S125} {y9 : List S59} {y10 : List ByteArray} {A1 A2 A3 A4 A5 A6 A7 A8 A9 A10 B1 B2 B3 B4 B5 B6 B7 B8 B9 B10 : Option Addr} {n1 n2 n3 n4 n5 n6 n7 n8 n9 n10 m1 m2 m3 m4 m5 m6 m7 m8 m9 m10 : Nat}
    (hA : CR w ⟨y0,y1,y2,y3,y4,y5,y6,y7,y8,y9,y10⟩ ⟨A1,A2,A3,A4,A5,A6,A7,A8,A9,A10,n1,n2,n3,n4,n5,n6,n7,n8,n9,n10⟩) (hB : CR w ⟨y0,y1,y2,y3,y4,y5,y6,y7,y8,y9,y10⟩ ⟨B1,B2,B3,B4,B5,B6,B7,B8,B9,B10,m1,m2,m3,m4,m5,m6,m7,m8,m9,m10⟩)
    (hl : y1.length ≤ 9223372036854775806 ∧ y2.length ≤ 9223372036854775806 ∧ y3.length ≤ 9223372036854775806 ∧ y4.length ≤ 9223372036854775806 ∧ y5.length ≤ 9223372036854775806 ∧ y6.length ≤ 9223372036854775806 ∧ y7.length ≤ 9223372036854775806 ∧ y8.length ≤ 9223372036854775806 ∧ y9.length ≤ 9223372036854775806 ∧ y10.length ≤ 9223372036854775806) (hj : ∀ r ∈ y6,r.length ≤ 9223372036854775806) :
    Calls Tryd.prog 32 #[.agg #[.int .i64 y0,.slice A1 y1.length n1,.slice A2 y2.length n2,.slice A3 y3.length n3,.slice A4 y4.length n4,.slice A5 y5.length n5,.slice A6 y6.length n6,.slice A7 y7.length n7,.slice A8 y8.length n8,.slice A9 y9.length n9,.slice A10 y10.length n10],.agg #[.int .i64 y0,.slice B1 y1.length m1,.slice B2 y2.length m2,.slice B3 y3.length m3,.slice B4 y4.length m4,.slice B5 y5.length m5,.slice B6 y6.length m6,.slice B7 y7.length m7,.slice B8 y8.length m8,.slice B9 y9.length m9,.slice B10 y10.length m10]] w fun e w' => e = .returned (.bool true) ∧ Below w.heap.size w w':=by
  obtain ⟨l1,l2,l3,l4,l5,l6,l7,l8,l9,l10⟩:=hl
  have HL1:=Aside0.mk l1
  have HL2:=Aside0.mk l2
  have HL3:=Aside0.mk l3
  have HL4:=Aside0.mk l4
  have HL5:=Aside0.mk l5
  have HL6:=Aside0.mk l6
  have HL7:=Aside0.mk l7
  have HL8:=Aside0.mk l8
  have HL9:=Aside0.mk l9
  have HL10:=Aside0.mk l10
  have HJ:=Aside0.mk hj
  have HB0:=Aside0.mk (show Below w.heap.size w ((w.alloc (.cells #[.int .i64 y0,.slice A1 y1.length n1,.slice A2 y2.length n2,.slice A3 y3.length n3,.slice A4 y4.length n4,.slice A5 y5.length n5,.slice A6 y6.length n6,.slice A7 y7.length n7,.slice A8 y8.length n8,.slice A9 y9.length n9,.slice A10 y10.length n10] 65)).alloc (.cells #[.int .i64 y0,.slice B1 y1.length m1,.slice B2 y2.length m2,.slice B3 y3.length m3,.slice B4 y4.length m4,.slice B5 y5.length m5,.slice B6 y6.length m6,.slice B7 y7.length m7,.slice B8 y8.length m8,.slice B9 y9.length m9,.slice B10 y10.length m10] 65)) from below_alloc (below_alloc (Below.refl _ _) _) _)
  have HA1:=Aside0.mk (Kd.C_below hA.r1 HB0.out)
  have HB1:=Aside0.mk (Kd.C_below hB.r1 HB0.out)
  have HA2:=Aside0.mk (Kd.C_below hA.r2 HB0.out)
  have HB2:=Aside0.mk (Kd.C_below hB.r2 HB0.out)
  have HA3:=Aside0.mk (Kd.C_below hA.r3 HB0.out)
  have HB3:=Aside0.mk (Kd.C_below hB.r3 HB0.out)
  have HA4:=Aside0.mk (Kd.C_below hA.r4 HB0.out)
  have HB4:=Aside0.mk (Kd.C_below hB.r4 HB0.out)
  have HA5:=Aside0.mk (Kd.C_below hA.r5 HB0.out)
  have HB5:=Aside0.mk (Kd.C_below hB.r5 HB0.out)
  have HA6:=Aside0.mk (Kd.C_below hA.r6 HB0.out)
  have HB6:=Aside0.mk (Kd.C_below hB.r6 HB0.out)
  have HA7:=Aside0.mk (Kd.C_below hA.r7 HB0.out)
  have HB7:=Aside0.mk (Kd.C_below hB.r7 HB0.out)
  have HA8:=Aside0.mk (Kd.C_below hA.r8 HB0.out)
  have HB8:=Aside0.mk (Kd.C_below hB.r8 HB0.out)
  have HA9:=Aside0.mk (Kd.C_below hA.r9 HB0.out)
  have HB9:=Aside0.mk (Kd.C_below hB.r9 HB0.out)
  have HA10:=Aside0.mk (Kd.C_below hA.r10 HB0.out)
  have HB10:=Aside0.mk (Kd.C_below hB.r10 HB0.out)
  clear l1 l2 l3 l4 l5 l6 l7 l8 l9 l10 hj hA hB
  go_enter Tryd.func32,Tryd.ntmps32
  go_upto_region 1 with (fail)
  have hc:=blk_alloc (blk_new w (.cells #[.int .i64 y0,.slice A1 y1.length n1,.slice A2 y2.length n2,.slice A3 y3.length n3,.slice A4 y4.length n4,.slice A5 y5.length n5,.slice A6 y6.length n6,.slice A7 y7.length n7,.slice A8 y8.length n8,.slice A9 y9.length n9,.slice A10 y10.length n10] 65)) (.cells #[.int .i64 y0,.slice B1 y1.length m1,.slice B2 y2.length m2,.slice B3 y3.length m3,.slice B4 y4.length m4,.slice B5 y5.length m5,.slice B6 y6.length m6,.slice B7 y7.length m7,.slice B8 y8.length m8,.slice B9 y9.length m9,.slice B10 y10.length m10] 65)
  have hd:=blk_new (w.alloc (.cells #[.int .i64 y0,.slice A1 y1.length n1,.slice A2 y2.length n2,.slice A3 y3.length n3,.slice A4 y4.length n4,.slice A5 y5.length n5,.slice A6 y6.length n6,.slice A7 y7.length n7,.slice A8 y8.length n8,.slice A9 y9.length n9,.slice A10 y10.length n10] 65)) (.cells #[.int .i64 y0,.slice B1 y1.length m1,.slice B2 y2.length m2,.slice B3 y3.length m3,.slice B4 y4.length m4,.slice B5 y5.length m5,.slice B6 y6.length m6,.slice B7 y7.length m7,.slice B8 y8.length m8,.slice B9 y9.length m9,.slice B10 y10.length m10] 65)
  simp only [World.size_alloc] at hd
  generalize (w.alloc (.cells #[.int .i64 y0,.slice A1 y1.length n1,.slice A2 y2.length n2,.slice A3 y3.length n3,.slice A4 y4.length n4,.slice A5 y5.length n5,.slice A6 y6.length n6,.slice A7 y7.length n7,.slice A8 y8.length n8,.slice A9 y9.length n9,.slice A10 y10.length n10] 65)).alloc (.cells #[.int .i64 y0,.slice B1 y1.length m1,.slice B2 y2.length m2,.slice B3 y3.length m3,.slice B4 y4.length m4,.slice B5 y5.length m5,.slice B6 y6.length m6,.slice B7 y7.length m7,.slice B8 y8.length m8,.slice B9 y9.length m9,.slice B10 y10.length m10] 65) = w2 at hc hd HA1 HB1 HA2 HB2 HA3 HB3 HA4 HB4 HA5 HB5 HA6 HB6 HA7 HB7 HA8 HB8 HA9 HB9 HA10 HB10 HB0 ⊢
  generalize hgs : w.heap.size = g at hc hd HB0 ⊢
  have HB:=Aside0.mk HB0.out
  clear HB0
  have c0 : w2.cell? ⟨g,0,none⟩ = some (.int .i64 y0):=blk_cell hc 0
  have c1 : w2.cell? ⟨g,1,none⟩ = some (.slice A1 y1.length n1):=blk_cell hc 1
  have c2 : w2.cell? ⟨g,2,none⟩ = some (.slice A2 y2.length n2):=blk_cell hc 2
  have c3 : w2.cell? ⟨g,3,none⟩ = some (.slice A3 y3.length n3):=blk_cell hc 3
  have c4 : w2.cell? ⟨g,4,none⟩ = some (.slice A4 y4.length n4):=blk_cell hc 4
  have c5 : w2.cell? ⟨g,5,none⟩ = some (.slice A5 y5.length n5):=blk_cell hc 5
  have c6 : w2.cell? ⟨g,6,none⟩ = some (.slice A6 y6.length n6):=blk_cell hc 6
  have c7 : w2.cell? ⟨g,7,none⟩ = some (.slice A7 y7.length n7):=blk_cell hc 7
  have c8 : w2.cell? ⟨g,8,none⟩ = some (.slice A8 y8.length n8):=blk_cell hc 8
  have c9 : w2.cell? ⟨g,9,none⟩ = some (.slice A9 y9.length n9):=blk_cell hc 9
  have c10 : w2.cell? ⟨g,10,none⟩ = some (.slice A10 y10.length n10):=blk_cell hc 10
  have d0 : w2.cell? ⟨g + 1,0,none⟩ = some (.int .i64 y0):=blk_cell hd 0
  have d1 : w2.cell? ⟨g + 1,1,none⟩ = some (.slice B1 y1.length m1):=blk_cell hd 1
  have d2 : w2.cell? ⟨g + 1,2,none⟩ = some (.slice B2 y2.length m2):=blk_cell hd 2
  have d3 : w2.cell? ⟨g + 1,3,none⟩ = some (.slice B3 y3.length m3):=blk_cell hd 3
  have d4 : w2.cell? ⟨g + 1,4,none⟩ = some (.slice B4 y4.length m4):=blk_cell hd 4
  have d5 : w2.cell? ⟨g + 1,5,none⟩ = some (.slice B5 y5.length m5):=blk_cell hd 5
  have d6 : w2.cell? ⟨g + 1,6,none⟩ = some (.slice B6 y6.length m6):=blk_cell hd 6
  have d7 : w2.cell? ⟨g + 1,7,none⟩ = some (.slice B7 y7.length m7):=blk_cell hd 7
  have d8 : w2.cell? ⟨g + 1,8,none⟩ = some (.slice B8 y8.length m8):=blk_cell hd 8
  have d9 : w2.cell? ⟨g + 1,9,none⟩ = some (.slice B9 y9.length m9):=blk_cell hd 9
  have d10 : w2.cell? ⟨g + 1,10,none⟩ = some (.slice B10 y10.length m10):=blk_cell hd 10
  clear hc hd
  go_wp2_with (first|(go_at_call_of 63 (Value.slice A1 y1.length n1);refine (eq63 HL1.out (by (with_reducible repeat (first|apply Kd.C_drewN|apply Kd.C_drew));exact HA1.out) (by (with_reducible repeat (first|apply Kd.C_drewN|apply Kd.C_drew));exact HB1.out)).mono ?_;rintro e w' ⟨rfl,⟨nd1,rfl⟩⟩)|(go_at_call_of 64 (Value.slice A2 y2.length n2);refine (eq64 HL2.out (by (with_reducible repeat (first|apply Kd.C_drewN|apply Kd.C_drew));exact HA2.out) (by (with_reducible repeat (first|apply Kd.C_drewN|apply Kd.C_drew));exact HB2.out)).mono ?_;rintro e w' ⟨rfl,⟨nd2,rfl⟩⟩)|(go_at_call_of 63 (Value.slice A3 y3.length n3);refine (eq63 HL3.out (by (with_reducible repeat (first|apply Kd.C_drewN|apply Kd.C_drew));exact HA3.out) (by (with_reducible repeat (first|apply Kd.C_drewN|apply Kd.C_drew));exact HB3.out)).mono ?_;rintro e w' ⟨rfl,⟨nd3,rfl⟩⟩)|(go_at_call_of 63 (Value.slice A4 y4.length n4);refine (eq63 HL4.out (by (with_reducible repeat (first|apply Kd.C_drewN|apply Kd.C_drew));exact HA4.out) (by (with_reducible repeat (first|apply Kd.C_drewN|apply Kd.C_drew));exact HB4.out)).mono ?_;rintro e w' ⟨rfl,⟨nd4,rfl⟩⟩)|(go_at_call_of 63 (Value.slice A5 y5.length n5);refine (eq63 HL5.out (by (with_reducible repeat (first|apply Kd.C_drewN|apply Kd.C_drew));exact HA5.out) (by (with_reducible repeat (first|apply Kd.C_drewN|apply Kd.C_drew));exact HB5.out)).mono ?_;rintro e w' ⟨rfl,⟨nd5,rfl⟩⟩)|(go_at_call_of 62 (Value.slice A6 y6.length n6);refine (eq62 HL6.out HJ.out (by (with_reducible repeat (first|apply Kd.C_drewN|apply Kd.C_drew));exact HA6.out) (by (with_reducible repeat (first|apply Kd.C_drewN|apply Kd.C_drew));exact HB6.out)).mono ?_;rintro e w' ⟨rfl,⟨nd6,rfl⟩⟩)|(go_at_call_of 63 (Value.slice A7 y7.length n7);refine (eq63 HL7.out (by (with_reducible repeat (first|apply Kd.C_drewN|apply Kd.C_drew));exact HA7.out) (by (with_reducible repeat (first|apply Kd.C_drewN|apply Kd.C_drew));exact HB7.out)).mono ?_;rintro e w' ⟨rfl,⟨nd7,rfl⟩⟩)|(go_at_call_of 65 (Value.slice A8 y8.length n8);refine (eq65 HL8.out (by (with_reducible repeat (first|apply Kd.C_drewN|apply Kd.C_drew));exact HA8.out) (by (with_reducible repeat (first|apply Kd.C_drewN|apply Kd.C_drew));exact HB8.out)).mono ?_;rintro e w' ⟨rfl,⟨nd8,rfl⟩⟩)|(go_at_call_of 66 (Value.slice A9 y9.length n9);refine (eq66 HL9.out (by (with_reducible repeat (first|apply Kd.C_drewN|apply Kd.C_drew));exact HA9.out) (by (with_reducible repeat (first|apply Kd.C_drewN|apply Kd.C_drew));exact HB9.out)).mono ?_;rintro e w' ⟨rfl,⟨nd9,rfl⟩⟩)|(go_at_call_of 67 (Value.slice A10 y10.length n10);refine (eq67 HL10.out (by (with_reducible repeat (first|apply Kd.C_drewN|apply Kd.C_drew));exact HA10.out) (by (with_reducible repeat (first|apply Kd.C_drewN|apply Kd.C_drew));exact HB10.out)).mono ?_;rintro e w' ⟨rfl,⟨nd10,rfl⟩⟩))
  go_ret
  subst hgs
  exact ⟨by simp,by (with_reducible repeat (first|apply pw_below_drewN|apply below_drew1));exact HB.out⟩
end Go.Proofs.YtojepjkpnponoaaDoor.Asc
end
