import Derived.Test.YtifigmamaakigaaDoorBV8
namespace Go.Proofs.YtifigmamaakigaaDoor.V
open Go Go.RowKit Go.Lib Go.Proofs.YtifigmamaakigaaDoorW.PrintWords Go.Proofs.YtifigmamaakigaaDoorW.PrintLast Go.Proofs.YtifigmamaakigaaDoorW.PrintMore
set_option linter.unusedVariables false
set_option linter.unusedSimpArgs false
theorem mergeF_rows (l : List RW) : (mergeF l).1.length ≤ 16384 ∧ ∀ r ∈ (mergeF l).1,mayB r = true:=by
  rcases mergeF_bad l with ⟨_,h⟩|⟨m,h⟩
  · rw [h]
    exact ⟨by simp,fun r hr => by cases hr⟩
  · obtain ⟨h1,h2⟩:=mergeF_ok h
    obtain ⟨h3,h4⟩:=wrongF_zero.1 h1
    rw [h]
    exact ⟨Nat.le_trans (mergeR_length h2) h3,fun r hr => h4 r (merge_mem h2 r hr)⟩
theorem may_kind {r : RW} (h : mayB r = true) : r.f3 = 0 ∨ r.f3 = 3 ∨ r.f3 = 4:=by
  unfold mayB at h
  simp only [Bool.and_eq_true,decide_eq_true_eq,Bool.or_eq_true,beq_iff_eq] at h
  omega
def ofKind (k : Int) (l : List RW) : Nat:=l.countP (fun r => r.f3 == k)
theorem ofKind_snoc (k : Int) (l : List RW) (r : RW) : ofKind k (l ++ [r]) = ofKind k l + if r.f3 = k then 1 else 0:=by
  unfold ofKind
  rw [List.countP_append,List.countP_singleton]
  by_cases h : r.f3 = k
  · simp [h]
  · simp [h]
theorem ofKind_le (k : Int) (l : List RW) : ofKind k l ≤ l.length:=List.countP_le_length
set_option maxHeartbeats 4000000 in
set_option maxRecDepth 100000 in
theorem sum_calls {w : World} {A : Option Addr} {c : Nat} {xs : List RW} (hK : KV w) (h : Kd.C kR w A xs.length xs) :
    Calls Tryd.prog 10 #[.slice A xs.length c] w fun e w' => e = .returned (.tuple #[.int .i64 (ofKind 3 (mergeF xs).1 : Nat),.int .i64 (ofKind 4 (mergeF xs).1 : Nat),.int .i64 (ofKind 0 (mergeF xs).1 : Nat),.int .i64 (mergeF xs).2]) ∧ Below w.heap.size w w':=by
  have hu31:=Tryd.underlying31
  have hu65:=Tryd.underlying65
  have MC:=merge_calls (c:=c) hK h
  have hmr:=mergeF_rows xs
  generalize mergeF xs = mf at MC hmr ⊢
  obtain ⟨m,code⟩:=mf
  dsimp only at MC hmr ⊢
  have MC':=Aside0.mk MC
  have HMR:=Aside0.mk hmr
  clear MC hmr h hK
  go_enter Tryd.func10,Tryd.ntmps10
  go_upto_region 3 with (go_at_call 6;refine (MC'.out).mono ?_;rintro e w2 ⟨v,rfl,hr2,hb2⟩;obtain ⟨A9,n9,rfl⟩:=Kd.R_slice hr2;have HR2:=Aside0.mk hr2;have HB2:=Aside0.mk hb2;clear hr2 hb2)
  have k7 : (w2.alloc (.cells #[.int .i64 0,.int .i64 0,.int .i64 0,.int .i64 0,.int .i64 0] 65)).heap[w2.heap.size]? = some (.cells #[.int .i64 (ofKind 0 ([] : List RW) : Nat),.int .i64 0,.int .i64 0,.int .i64 (ofKind 3 ([] : List RW) : Nat),.int .i64 (ofKind 4 ([] : List RW) : Nat)] 65 (0,0)):=blk_new w2 _
  have hr3 : Kd.R kR 31 (w2.alloc (.cells #[.int .i64 0,.int .i64 0,.int .i64 0,.int .i64 0,.int .i64 0] 65)) w.heap.size (fun _ => True) (.slice A9 m.length n9) m:=Kd.R_alloc HR2.out _
  have hb3 : Below w.heap.size w (w2.alloc (.cells #[.int .i64 0,.int .i64 0,.int .i64 0,.int .i64 0,.int .i64 0] 65)):=below_alloc HB2.out _
  have hle : w.heap.size ≤ w2.heap.size:=HB2.out.size
  clear HR2 HB2
  generalize w2.heap.size = g at k7 hle ⊢
  generalize w2.alloc (.cells #[.int .i64 0,.int .i64 0,.int .i64 0,.int .i64 0,.int .i64 0] 65) = W3 at k7 hr3 hb3 ⊢
  have HK:=Aside0.mk k7
  have HR:=Aside0.mk hr3
  have HB:=Aside0.mk hb3
  have HLE:=Aside0.mk hle
  clear k7 hr3 hb3 hle
  go_wp2
  repeat (go_quiet (fail);try go_wp2)
  (try simp only [Act.put,List.setIfInBounds_toArray,List.set_cons_zero,List.set_cons_succ])
  go_loopg [18] (m.length + 1) (fun kq v w' => ∃ (n : Nat),v = .int .i64 n ∧ Aside0 (n + kq = m.length + 1) ∧ Aside0 (n ≤ m.length) ∧ Aside0 (w'.heap[g]? = some (.cells #[.int .i64 (ofKind 0 (m.take n) : Nat),.int .i64 0,.int .i64 0,.int .i64 (ofKind 3 (m.take n) : Nat),.int .i64 (ofKind 4 (m.take n) : Nat)] 65 (0,0))) ∧ Aside0 (Kd.R kR 31 w' w.heap.size (fun _ => True) (.slice A9 m.length n9) m) ∧ Aside0 (Below w.heap.size w w'))
  case atStart => exact ⟨0,rfl,⟨by omega⟩,⟨Nat.zero_le _⟩,⟨by rw [List.take_zero];exact HK.out⟩,HR,HB⟩
  case round =>
    clear HK HR HB
    obtain ⟨n,rfl,HN,HNL,HK,HR,HB⟩:=hrel
    cases gk with
    | zero =>
      have h1:=HN.out
      have h2:=HNL.out
      omega
    | succ k1 =>
      by_cases cn : n < m.length
      · have cnb : decide ((n : Int) < (m.length : Int)) = true:=decide_eq_true (by omega)
        have p0 : (0 ≤ (n : Int)) = True:=eq_true (by omega)
        have p1 : ((n : Int) < (m.length : Int)) = True:=eq_true (by omega)
        have hw1 : IntKind.i64.wrap ((n : Int) + 1) = ((n + 1 : Nat) : Int):=by have:=HMR.out.1;rw [IntKind.wrap_i64];omega
        obtain ⟨A',c',ea,_,hC⟩:=Kd.R_reads HR.out
        injection ea with ea1 ea2 ea3
        subst ea1
        clear ea2 ea3
        obtain ⟨ad,ea,hx0,hx1,hx2,hx3,hx4⟩:=row_at hC n cn
        cases ea
        have HTK : Aside0 (m.take (n + 1) = m.take n ++ [m[n]]):=⟨List.take_succ_eq_append_getElem cn⟩
        have hkd:=may_kind (HMR.out.2 m[n] (List.getElem_mem cn))
        have hl0:=ofKind_le 0 (m.take n)
        have hl3:=ofKind_le 3 (m.take n)
        have hl4:=ofKind_le 4 (m.take n)
        have hlt : (m.take n).length ≤ 16384:=by rw [List.length_take];have:=HMR.out.1;omega
        have hv0:=ofKind_snoc 0 (m.take n) m[n]
        have hv3:=ofKind_snoc 3 (m.take n) m[n]
        have hv4:=ofKind_snoc 4 (m.take n) m[n]
        rw [← HTK.out] at hv0 hv3 hv4
        clear HTK hC
        have hk:=HK.out
        clear HK
        generalize ofKind 0 (m.take n) = q0 at hk hl0 hv0
        generalize ofKind 3 (m.take n) = q3 at hk hl3 hv3
        generalize ofKind 4 (m.take n) = q4 at hk hl4 hv4
        have hz0 : IntKind.i64.wrap ((q0 : Int) + 1) = ((q0 + 1 : Nat) : Int):=by rw [IntKind.wrap_i64];omega
        have hz3 : IntKind.i64.wrap ((q3 : Int) + 1) = ((q3 + 1 : Nat) : Int):=by rw [IntKind.wrap_i64];omega
        have hz4 : IntKind.i64.wrap ((q4 : Int) + 1) = ((q4 + 1 : Nat) : Int):=by rw [IntKind.wrap_i64];omega
        generalize m[n] = x at hx0 hx1 hx2 hx3 hx4 hkd hv0 hv3 hv4
        obtain ⟨a0,a1,a2,kd,a4⟩:=x
        dsimp only at hx0 hx1 hx2 hx3 hx4 hkd hv0 hv3 hv4
        clear hl0 hl3 hl4 hlt
        have HV:=Aside0.mk (And.intro hv0 (And.intro hv3 hv4))
        clear hv0 hv3 hv4
        rcases hkd with rfl|rfl|rfl
        · have hc7 : (wr.alloc (.cells #[.int .u8 a0,.int .i64 a1,.string a2,.int .i64 0,.int .i64 a4] 31)).heap[g]? = some (.cells #[.int .i64 (q0 : Nat),.int .i64 0,.int .i64 0,.int .i64 (q3 : Nat),.int .i64 (q4 : Nat)] 65 (0,0)):=blk_alloc hk _
          have hc9 : (wr.alloc (.cells #[.int .u8 a0,.int .i64 a1,.string a2,.int .i64 0,.int .i64 a4] 31)).heap[wr.heap.size]? = some (.cells #[.int .u8 a0,.int .i64 a1,.string a2,.int .i64 0,.int .i64 a4] 31 (0,0)):=blk_new wr _
          have hr7 : Kd.R kR 31 (wr.alloc (.cells #[.int .u8 a0,.int .i64 a1,.string a2,.int .i64 0,.int .i64 a4] 31)) w.heap.size (fun _ => True) (.slice (some ad) m.length n9) m:=Kd.R_alloc HR.out _
          have hb7 : Below w.heap.size w (wr.alloc (.cells #[.int .u8 a0,.int .i64 a1,.string a2,.int .i64 0,.int .i64 a4] 31)):=below_alloc HB.out _
          go_upto_region 6 with (fail)
          clear hx0 hx1 hx2 hx3 hx4 HR HB hk
          generalize wr.heap.size = g9 at hc9 ⊢
          generalize wr.alloc (.cells #[.int .u8 a0,.int .i64 a1,.string a2,.int .i64 0,.int .i64 a4] 31) = W7 at hc7 hc9 hr7 hb7 ⊢
          have t3 : W7.cell? ⟨g9,3,none⟩ = some (.int .i64 0):=(blk_cell hc9 3).trans rfl
          have t0 : W7.cell? ⟨g,0,none⟩ = some (.int .i64 (q0 : Nat)):=(blk_cell hc7 0).trans rfl
          have f0:=blk_frozen hc7 0
          have HC7:=Aside0.mk hc7
          have HR7:=Aside0.mk hr7
          have HB7:=Aside0.mk hb7
          clear hc7 hc9 hr7 hb7
          go_wp2
          repeat (go_quiet (fail);try go_wp2)
          go_roundg k1
          case measure => omega
          case rel =>
            refine ⟨n + 1,rfl,⟨by have:=HN.out;omega⟩,⟨by omega⟩,⟨?_⟩,⟨Kd.R_set HR7.out HC7.out (by decide) 0 _⟩,⟨below_set HB7.out HLE.out⟩⟩
            have hp:=blk_put (cs:=#[.int .i64 (q0 : Nat),.int .i64 0,.int .i64 0,.int .i64 (q3 : Nat),.int .i64 (q4 : Nat)]) HC7.out 0 (.int .i64 ((q0 + 1 : Nat) : Int)) rfl
            obtain ⟨h0,h3,h4⟩:=HV.out
            rw [h0,h3,h4]
            simpa using hp
        · have hc7 : (wr.alloc (.cells #[.int .u8 a0,.int .i64 a1,.string a2,.int .i64 3,.int .i64 a4] 31)).heap[g]? = some (.cells #[.int .i64 (q0 : Nat),.int .i64 0,.int .i64 0,.int .i64 (q3 : Nat),.int .i64 (q4 : Nat)] 65 (0,0)):=blk_alloc hk _
          have hc9 : (wr.alloc (.cells #[.int .u8 a0,.int .i64 a1,.string a2,.int .i64 3,.int .i64 a4] 31)).heap[wr.heap.size]? = some (.cells #[.int .u8 a0,.int .i64 a1,.string a2,.int .i64 3,.int .i64 a4] 31 (0,0)):=blk_new wr _
          have hr7 : Kd.R kR 31 (wr.alloc (.cells #[.int .u8 a0,.int .i64 a1,.string a2,.int .i64 3,.int .i64 a4] 31)) w.heap.size (fun _ => True) (.slice (some ad) m.length n9) m:=Kd.R_alloc HR.out _
          have hb7 : Below w.heap.size w (wr.alloc (.cells #[.int .u8 a0,.int .i64 a1,.string a2,.int .i64 3,.int .i64 a4] 31)):=below_alloc HB.out _
          go_upto_region 6 with (fail)
          clear hx0 hx1 hx2 hx3 hx4 HR HB hk
          generalize wr.heap.size = g9 at hc9 ⊢
          generalize wr.alloc (.cells #[.int .u8 a0,.int .i64 a1,.string a2,.int .i64 3,.int .i64 a4] 31) = W7 at hc7 hc9 hr7 hb7 ⊢
          have t3 : W7.cell? ⟨g9,3,none⟩ = some (.int .i64 3):=(blk_cell hc9 3).trans rfl
          have t0 : W7.cell? ⟨g,3,none⟩ = some (.int .i64 (q3 : Nat)):=(blk_cell hc7 3).trans rfl
          have f0:=blk_frozen hc7 3
          have HC7:=Aside0.mk hc7
          have HR7:=Aside0.mk hr7
          have HB7:=Aside0.mk hb7
          clear hc7 hc9 hr7 hb7
          go_wp2
          repeat (go_quiet (fail);try go_wp2)
          go_roundg k1
          case measure => omega
          case rel =>
            refine ⟨n + 1,rfl,⟨by have:=HN.out;omega⟩,⟨by omega⟩,⟨?_⟩,⟨Kd.R_set HR7.out HC7.out (by decide) 3 _⟩,⟨below_set HB7.out HLE.out⟩⟩
            have hp:=blk_put (cs:=#[.int .i64 (q0 : Nat),.int .i64 0,.int .i64 0,.int .i64 (q3 : Nat),.int .i64 (q4 : Nat)]) HC7.out 3 (.int .i64 ((q3 + 1 : Nat) : Int)) rfl
            obtain ⟨h0,h3,h4⟩:=HV.out
            rw [h0,h3,h4]
            simpa using hp
        · have hc7 : (wr.alloc (.cells #[.int .u8 a0,.int .i64 a1,.string a2,.int .i64 4,.int .i64 a4] 31)).heap[g]? = some (.cells #[.int .i64 (q0 : Nat),.int .i64 0,.int .i64 0,.int .i64 (q3 : Nat),.int .i64 (q4 : Nat)] 65 (0,0)):=blk_alloc hk _
          have hc9 : (wr.alloc (.cells #[.int .u8 a0,.int .i64 a1,.string a2,.int .i64 4,.int .i64 a4] 31)).heap[wr.heap.size]? = some (.cells #[.int .u8 a0,.int .i64 a1,.string a2,.int .i64 4,.int .i64 a4] 31 (0,0)):=blk_new wr _
          have hr7 : Kd.R kR 31 (wr.alloc (.cells #[.int .u8 a0,.int .i64 a1,.string a2,.int .i64 4,.int .i64 a4] 31)) w.heap.size (fun _ => True) (.slice (some ad) m.length n9) m:=Kd.R_alloc HR.out _
          have hb7 : Below w.heap.size w (wr.alloc (.cells #[.int .u8 a0,.int .i64 a1,.string a2,.int .i64 4,.int .i64 a4] 31)):=below_alloc HB.out _
          go_upto_region 6 with (fail)
          clear hx0 hx1 hx2 hx3 hx4 HR HB hk
          generalize wr.heap.size = g9 at hc9 ⊢
          generalize wr.alloc (.cells #[.int .u8 a0,.int .i64 a1,.string a2,.int .i64 4,.int .i64 a4] 31) = W7 at hc7 hc9 hr7 hb7 ⊢
          have t3 : W7.cell? ⟨g9,3,none⟩ = some (.int .i64 4):=(blk_cell hc9 3).trans rfl
          have t0 : W7.cell? ⟨g,4,none⟩ = some (.int .i64 (q4 : Nat)):=(blk_cell hc7 4).trans rfl
          have f0:=blk_frozen hc7 4
          have HC7:=Aside0.mk hc7
          have HR7:=Aside0.mk hr7
          have HB7:=Aside0.mk hb7
          clear hc7 hc9 hr7 hb7
          go_wp2
          repeat (go_quiet (fail);try go_wp2)
          go_roundg k1
          case measure => omega
          case rel =>
            refine ⟨n + 1,rfl,⟨by have:=HN.out;omega⟩,⟨by omega⟩,⟨?_⟩,⟨Kd.R_set HR7.out HC7.out (by decide) 4 _⟩,⟨below_set HB7.out HLE.out⟩⟩
            have hp:=blk_put (cs:=#[.int .i64 (q0 : Nat),.int .i64 0,.int .i64 0,.int .i64 (q3 : Nat),.int .i64 (q4 : Nat)]) HC7.out 4 (.int .i64 ((q4 + 1 : Nat) : Int)) rfl
            obtain ⟨h0,h3,h4⟩:=HV.out
            rw [h0,h3,h4]
            simpa using hp
      · have hn : n = m.length:=by have:=HNL.out;omega
        subst hn
        have hk:=HK.out
        rw [List.take_length] at hk
        have y0 : wr.cell? ⟨g,0,none⟩ = some (.int .i64 (ofKind 0 m : Nat)):=(blk_cell hk 0).trans rfl
        have y3 : wr.cell? ⟨g,3,none⟩ = some (.int .i64 (ofKind 3 m : Nat)):=(blk_cell hk 3).trans rfl
        have y4 : wr.cell? ⟨g,4,none⟩ = some (.int .i64 (ofKind 4 m : Nat)):=(blk_cell hk 4).trans rfl
        clear hk HK cn
        go_wp2
        repeat (go_quiet (fail);try go_wp2)
        refine bodyPost_ret (results_list (rs:=[.tmp 2,.tmp 3,.tmp 4,.tmp 5]) rfl (by simp) (.tmp (.tmp (.tmp (.tmp .nil))))) rfl ?_
        exact ⟨rfl,HB.out.trans (SHlower HB.out.size (below_drewN0 _ _))⟩
end Go.Proofs.YtifigmamaakigaaDoor.V

