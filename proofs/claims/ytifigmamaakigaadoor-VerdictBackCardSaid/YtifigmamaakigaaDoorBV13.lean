import Derived.Test.YtifigmamaakigaaDoorBV11
import Derived.Test.YtifigmamaakigaaDoorBVBackP
import Derived.Test.YtifigmamaakigaaDoorBVBld
import Derived.Laws.Concat
import Derived.Lib.ItoaLen
namespace Go.Proofs.YtifigmamaakigaaDoor.V
open Go Go.RowKit Go.Lib Go.Proofs.YtifigmamaakigaaDoorW.PrintWords Go.Proofs.YtifigmamaakigaaDoorW.PrintLast Go.Proofs.YtifigmamaakigaaDoorW.PrintMore
set_option linter.unusedVariables false
set_option linter.unusedSimpArgs false
theorem data_app (a b : ByteArray) : (a ++ b).data.toList = a.data.toList ++ b.data.toList:=by
  rw [ByteArray.data_append,Array.toList_append]
theorem word_size (k : Int) (h : k = 0 ∨ k = 3 ∨ k = 4) : (wordF k).size ≤ 7:=by
  rcases h with rfl|rfl|rfl <;> decide
abbrev addW (a b c : ByteArray) : Prop:=∀ W : World,(Op.stringOp .add a b).run Tryd.prog W = .ok (.string c) W
theorem addW_mk {a b : ByteArray} (h : a.size + b.size ≤ 1000) : addW a b (a ++ b):=fun W => run_string_add_sum W a b (by omega)
theorem text_ops {r : RW} (h : mayB r = true) : ∃ s27 s30 s31 s35 s36 s40 s41 : ByteArray,addW ⟨(Lib.itoa r.f1).toArray⟩ ⟨#[32]⟩ s27 ∧ addW s27 r.f2 s30 ∧ addW s30 ⟨#[32]⟩ s31 ∧ addW s31 (wordF r.f3) s35 ∧ addW s35 ⟨#[32]⟩ s36 ∧ addW s36 ⟨(Lib.itoa r.f4).toArray⟩ s40 ∧ addW s40 ⟨#[10]⟩ s41 ∧
    rowT r = [UInt8.ofNat r.f0.toNat] ++ s41.data.toList ∧ s41.size ≤ 200:=by
  obtain ⟨h0,h1,h3,h4,h2,h5⟩:=may_parts h
  have l1:=Lib.itoa_length_le r.f1 (by omega) (by omega)
  have l4:=Lib.itoa_length_le r.f4 (by omega) (by omega)
  have lw:=word_size r.f3 h3
  have z1 : (⟨(Lib.itoa r.f1).toArray⟩ : ByteArray).size = (Lib.itoa r.f1).length:=bytes_size _
  have z4 : (⟨(Lib.itoa r.f4).toArray⟩ : ByteArray).size = (Lib.itoa r.f4).length:=bytes_size _
  have zb : (⟨#[32]⟩ : ByteArray).size = 1:=rfl
  have zn : (⟨#[10]⟩ : ByteArray).size = 1:=rfl
  refine ⟨_,_,_,_,_,_,_,addW_mk ?_,addW_mk ?_,addW_mk ?_,addW_mk ?_,addW_mk ?_,addW_mk ?_,addW_mk ?_,?_,?_⟩
  all_goals (try (first|omega|(simp only [ByteArray.size_append];omega)))
  simp only [data_app]
  unfold rowT
  rw [lineT_eq]
  simp
theorem rowT_len {r : RW} (h : mayB r = true) : (rowT r).length ≤ 201:=by
  obtain ⟨_,_,_,_,_,_,s,_,_,_,_,_,_,_,e,hs⟩:=text_ops h
  rw [e,List.length_append,size_list,List.length_singleton]
  omega
theorem table_take {xs : List RW} {n : Nat} (h : n < xs.length) : tableL (xs.take (n + 1)) = tableL (xs.take n) ++ rowT xs[n]:=by
  unfold tableL
  rw [List.take_succ_eq_append_getElem h,List.flatMap_append]
  simp
theorem table_len {xs : List RW} (h : ∀ r ∈ xs,mayB r = true) : (tableL xs).length ≤ xs.length * 201:=by
  induction xs with
  | nil => simp [tableL]
  | cons r l ih =>
    have h1:=rowT_len (h r (by simp))
    have h2:=ih (fun x hx => h x (by simp [hx]))
    unfold tableL at h2 ⊢
    rw [List.flatMap_cons,List.length_append,List.length_cons]
    omega
set_option maxHeartbeats 4000000 in
set_option maxRecDepth 100000 in
theorem table_no {w : World} {A : Option Addr} {c : Nat} {xs : List RW} (hG : GV w) (h : Kd.C kR w A xs.length xs) (hw : wrongF xs ≠ 0) :
    Calls Tryd.prog 8 #[.slice A xs.length c] w fun e w' => e = .returned (.tuple #[.string ⟨#[]⟩,.int .i64 (wrongF xs)]) ∧ Below w.heap.size w w':=by
  have LC:=Aside0.mk (looked_calls (c:=c) hG.kv h)
  generalize wrongF xs = ew at LC hw ⊢
  have cb : (ew != 0) = true:=by simpa using hw
  clear h hG hw
  go_enter Tryd.func8,Tryd.ntmps8
  go_wp2_with (first|(go_at_call 11;refine (LC.out).mono ?_;rintro e w1 ⟨rfl,hb1⟩;have HB1:=Aside0.mk hb1;clear hb1)|go_in)
  repeat (go_quiet (fail);try go_wp2)
  refine bodyPost_ret (results_tmp2 rfl _ _ _) rfl ?_
  exact ⟨rfl,HB1.out⟩
set_option maxHeartbeats 8000000 in
set_option maxRecDepth 100000 in
theorem table_ok {w : World} {A : Option Addr} {c : Nat} {xs : List RW} {T : ByteArray} {E : Int} (hG : GV w) (h : Kd.C kR w A xs.length xs) (hw : wrongF xs = 0) (hte : ((tableL xs).length > 262144 ∧ T = ⟨#[]⟩ ∧ E = 2) ∨ (¬ (tableL xs).length > 262144 ∧ T = ⟨(tableL xs).toArray⟩ ∧ E = 0)) :
    Calls Tryd.prog 8 #[.slice A xs.length c] w fun e w' => e = .returned (.tuple #[.string T,.int .i64 E]) ∧ Below w.heap.size w w':=by
  have HTE:=Aside0.mk hte
  clear hte
  have hu31:=Tryd.underlying31
  have hu29:=Tryd.underlying29
  have LC:=looked_calls (c:=c) hG.kv h
  rw [hw] at LC
  have LC:=Aside0.mk LC
  obtain ⟨hlen,hmay⟩:=wrongF_zero.1 hw
  have HL:=Aside0.mk hlen
  have HM:=Aside0.mk hmay
  have HT:=Aside0.mk (table_len hmay)
  have HG:=Aside0.mk hG
  have HX:=Aside0.mk h
  clear h hG hw hlen hmay
  go_enter Tryd.func8,Tryd.ntmps8
  go_upto_region 4 with (go_at_call 11;refine (LC.out).mono ?_;rintro e w1 ⟨rfl,hb1⟩;have HB1:=Aside0.mk hb1;clear hb1)
  clear LC
  go_upto_region 5 with (fail)
  have hp:=PB.new HB1.out
  generalize w1.heap.size = b at hp ⊢
  generalize w1.alloc (.cells #[.pointer none,.slice none 0 0] 53) = w2 at hp ⊢
  have HP:=Aside0.mk hp
  clear hp HB1
  go_wp2
  repeat (go_quiet (fail);try go_wp2)
  (try simp only [Act.put,List.setIfInBounds_toArray,List.set_cons_zero,List.set_cons_succ])
  go_loopg [15] (xs.length + 1) (fun kq v15 w' => ∃ (n : Nat),v15 = .int .i64 n ∧ Aside0 (n + kq = xs.length + 1) ∧ Aside0 (n ≤ xs.length) ∧ Aside0 (PB w w' b (tableL (xs.take n))))
  case atStart => exact ⟨0,rfl,⟨by omega⟩,⟨Nat.zero_le _⟩,HP⟩
  case round =>
    clear HP
    obtain ⟨n,rfl,HN,HNL,HP⟩:=hrel
    cases gk with
    | zero => exact absurd HN.out (by have:=HNL.out;omega)
    | succ k1 =>
      by_cases cn : n < xs.length
      · have cnb : decide ((n : Int) < (xs.length : Int)) = true:=decide_eq_true (by omega)
        have p0 : (0 ≤ (n : Int)) = True:=eq_true (by omega)
        have p1 : ((n : Int) < (xs.length : Int)) = True:=eq_true (by omega)
        have hw1 : IntKind.i64.wrap ((n : Int) + 1) = ((n + 1 : Nat) : Int):=by have:=HL.out;rw [IntKind.wrap_i64];omega
        obtain ⟨ad,ea,hx0,hx1,hx2,hx3,hx4⟩:=row_at (Kd.C_below HX.out HP.out.bel) n cn
        cases ea
        have HR:=Aside0.mk (HM.out xs[n] (List.getElem_mem cn))
        have HTN:=Aside0.mk (table_take cn)
        have HTL : Aside0 ((tableL (xs.take n)).length ≤ 4000000):=⟨by
          have h1:=table_len (xs:=xs.take n) (fun r hr => HM.out r (List.mem_of_mem_take hr))
          have h2:=HL.out
          have h3 : (xs.take n).length ≤ xs.length:=List.length_take_le' _ _
          omega⟩
        generalize xs[n] = r at hx0 hx1 hx2 hx3 hx4 HR HTN
        generalize tableL (xs.take n) = L at HP HTN HTL
        have IC1 : Aside0 (∀ W,GV W → Calls Tryd.prog 18 #[.int .i64 r.f1] W fun e w' => e = .returned (.string ⟨(Lib.itoa r.f1).toArray⟩) ∧ Below W.heap.size W w'):=⟨fun W hW => itoa_calls hW (by have:=(may_parts HR.out).2.1;omega) (by have:=(may_parts HR.out).2.1;omega)⟩
        have IC4 : Aside0 (∀ W,GV W → Calls Tryd.prog 18 #[.int .i64 r.f4] W fun e w' => e = .returned (.string ⟨(Lib.itoa r.f4).toArray⟩) ∧ Below W.heap.size W w'):=⟨fun W hW => itoa_calls hW (by have:=(may_parts HR.out).2.2.2.1;omega) (by have:=(may_parts HR.out).2.2.2.1;omega)⟩
        have WC : Aside0 (∀ W,GV W → Calls Tryd.prog 19 #[.int .i64 r.f3] W fun e w' => e = .returned (.string (wordF r.f3)) ∧ w' = W):=⟨fun W hW => word_calls hW.kv⟩
        have HC0 : Aside0 (r.f0 = ((UInt8.ofNat r.f0.toNat).toNat : Int)):=⟨by rcases (may_parts HR.out).1 with e|e <;> rw [e] <;> rfl⟩
        obtain ⟨s27,s30,s31,s35,s36,s40,s41,a27,a30,a31,a35,a36,a40,a41,hrow,hs41⟩:=text_ops HR.out
        generalize (⟨(Lib.itoa r.f1).toArray⟩ : ByteArray) = i1 at IC1 a27
        generalize (⟨(Lib.itoa r.f4).toArray⟩ : ByteArray) = i4 at IC4 a40
        generalize wordF r.f3 = kw at WC a35
        rw [hrow] at HTN
        have A27:=Aside0.mk a27
        have A30:=Aside0.mk a30
        have A31:=Aside0.mk a31
        have A35:=Aside0.mk a35
        have A36:=Aside0.mk a36
        have A40:=Aside0.mk a40
        have A41:=Aside0.mk a41
        have H41:=Aside0.mk hs41
        clear a27 a30 a31 a35 a36 a40 a41 hrow hs41 HR
        generalize UInt8.ofNat r.f0.toNat = c0 at HC0 HTN
        obtain ⟨r0,r1,r2,r3,r4⟩:=r
        dsimp only at *
        go_upto_region 8 with (fail)
        have k9 : (wr.alloc (.cells #[.int .u8 r0,.int .i64 r1,.string r2,.int .i64 r3,.int .i64 r4] 31)).heap[wr.heap.size]? = some (.cells #[.int .u8 r0,.int .i64 r1,.string r2,.int .i64 r3,.int .i64 r4] 31 (0,0)):=blk_new wr _
        have hp9:=HP.out.alloc (.cells #[.int .u8 r0,.int .i64 r1,.string r2,.int .i64 r3,.int .i64 r4] 31)
        clear HP hx0 hx1 hx2 hx3 hx4
        generalize wr.heap.size = g at k9 ⊢
        generalize wr.alloc (.cells #[.int .u8 r0,.int .i64 r1,.string r2,.int .i64 r3,.int .i64 r4] 31) = w3 at k9 hp9 ⊢
        have t0 : w3.cell? ⟨g,0,none⟩ = some (.int .u8 r0):=(blk_cell k9 0).trans rfl
        have hgb : g ≠ b:=hp9.ne_of k9 (by decide)
        have HGB:=Aside0.mk hgb
        have HK9:=Aside0.mk k9
        have HP9:=Aside0.mk hp9
        clear k9 hp9 hgb
        go_upto_region 9 with (go_at_call 16;refine (HP9.out.writeB c0 _ HC0.out (by have:=HTL.out;omega)).mono ?_;rintro e w4 ⟨rfl,hp4,ho4⟩;have HP4:=Aside0.mk hp4;have HK4:=Aside0.mk (ho4 _ _ HK9.out (fun e => HGB.out (by injection e)) (fun c fz e => by injection e with _ e;cases e));clear hp4 ho4)
        clear t0 HP9 HK9
        refine wp_normal' ?_
        refine start_ (n:=20) (S:=fun w' => PB w w' b (L ++ [c0]) ∧ w'.heap[g]? = some (.cells #[.int .u8 r0,.int .i64 r1,.string r2,.int .i64 r3,.int .i64 r4] 31 (0,0))) (ds:=[19]) #[false,false,false,false,false,false,false,false,false,false,false,false,false,false,false,false,false,false,false,false] (by kernel_rfl) rfl rfl ⟨HP4.out.below (below_drew (Below.refl _ _)),blk_below HK4.out (below_drew (Below.refl _ _))⟩ (fun hHeld => ?_)
        generalize w4.drew = w5 at hHeld ⊢
        refine pure_ (i:=0) (N:=some 23) (v:=?_) (a':=?_) #[true,false,false,false,false,false,false,false,false,false,false,false,false,false,false,false,false,false,false,false] rfl rfl (by kernel_rfl) (fun _ _ _ h => by cases h.1) (Or.inl ⟨by rfl,?_⟩) ?_ ?_
        rotate_left
        · intro w'
          go_simp
          with_reducible rfl
        rotate_left
        · simp only [Act.put,List.setIfInBounds_toArray,List.set_cons_zero,List.set_cons_succ]
          rfl
        refine pure_ (i:=1) (N:=some 24) (v:=?_) (a':=?_) #[true,true,false,false,false,false,false,false,false,false,false,false,false,false,false,false,false,false,false,false] rfl rfl (by kernel_rfl) (fun _ _ _ h => by cases h.1) (Or.inl ⟨by rfl,?_⟩) ?_ ?_
        rotate_left
        · intro w'
          go_simp
          with_reducible rfl
        rotate_left
        · simp only [Act.put,List.setIfInBounds_toArray,List.set_cons_zero,List.set_cons_succ]
          rfl
        refine take_ (i:=2) (N:=some 25) (v:=?_) (a':=?_) #[true,true,true,false,false,false,false,false,false,false,false,false,false,false,false,false,false,false,false,false] rfl rfl (by kernel_rfl) (fun _ _ _ h => by cases h.1) (Or.inl ⟨by rfl,?_⟩) hHeld ?_ ?_
        rotate_left
        · intro w' s_
          have c_ : w'.cell? ⟨g,1,none⟩ = some (.int .i64 r1):=(blk_cell s_.2 1).trans rfl
          go_simp
          with_reducible rfl
        rotate_left
        · simp only [Act.put,List.setIfInBounds_toArray,List.set_cons_zero,List.set_cons_succ]
          rfl
        refine pure_ (i:=5) (N:=some 28) (v:=?_) (a':=?_) #[true,true,true,false,false,true,false,false,false,false,false,false,false,false,false,false,false,false,false,false] rfl rfl (by kernel_rfl) (fun _ _ _ h => by cases h.1) (Or.inl ⟨by rfl,?_⟩) ?_ ?_
        rotate_left
        · intro w'
          go_simp
          with_reducible rfl
        rotate_left
        · simp only [Act.put,List.setIfInBounds_toArray,List.set_cons_zero,List.set_cons_succ]
          rfl
        refine take_ (i:=6) (N:=some 29) (v:=?_) (a':=?_) #[true,true,true,false,false,true,true,false,false,false,false,false,false,false,false,false,false,false,false,false] rfl rfl (by kernel_rfl) (fun _ _ _ h => by cases h.1) (Or.inl ⟨by rfl,?_⟩) hHeld ?_ ?_
        rotate_left
        · intro w' s_
          have c_ : w'.cell? ⟨g,2,none⟩ = some (.string r2):=(blk_cell s_.2 2).trans rfl
          go_simp
          with_reducible rfl
        rotate_left
        · simp only [Act.put,List.setIfInBounds_toArray,List.set_cons_zero,List.set_cons_succ]
          rfl
        refine pure_ (i:=9) (N:=some 32) (v:=?_) (a':=?_) #[true,true,true,false,false,true,true,false,false,true,false,false,false,false,false,false,false,false,false,false] rfl rfl (by kernel_rfl) (fun _ _ _ h => by cases h.1) (Or.inl ⟨by rfl,?_⟩) ?_ ?_
        rotate_left
        · intro w'
          go_simp
          with_reducible rfl
        rotate_left
        · simp only [Act.put,List.setIfInBounds_toArray,List.set_cons_zero,List.set_cons_succ]
          rfl
        refine take_ (i:=10) (N:=some 33) (v:=?_) (a':=?_) #[true,true,true,false,false,true,true,false,false,true,true,false,false,false,false,false,false,false,false,false] rfl rfl (by kernel_rfl) (fun _ _ _ h => by cases h.1) (Or.inl ⟨by rfl,?_⟩) hHeld ?_ ?_
        rotate_left
        · intro w' s_
          have c_ : w'.cell? ⟨g,3,none⟩ = some (.int .i64 r3):=(blk_cell s_.2 3).trans rfl
          go_simp
          with_reducible rfl
        rotate_left
        · simp only [Act.put,List.setIfInBounds_toArray,List.set_cons_zero,List.set_cons_succ]
          rfl
        refine pure_ (i:=14) (N:=some 37) (v:=?_) (a':=?_) #[true,true,true,false,false,true,true,false,false,true,true,false,false,false,true,false,false,false,false,false] rfl rfl (by kernel_rfl) (fun _ _ _ h => by cases h.1) (Or.inl ⟨by rfl,?_⟩) ?_ ?_
        rotate_left
        · intro w'
          go_simp
          with_reducible rfl
        rotate_left
        · simp only [Act.put,List.setIfInBounds_toArray,List.set_cons_zero,List.set_cons_succ]
          rfl
        refine take_ (i:=15) (N:=some 38) (v:=?_) (a':=?_) #[true,true,true,false,false,true,true,false,false,true,true,false,false,false,true,true,false,false,false,false] rfl rfl (by kernel_rfl) (fun _ _ _ h => by cases h.1) (Or.inl ⟨by rfl,?_⟩) hHeld ?_ ?_
        rotate_left
        · intro w' s_
          have c_ : w'.cell? ⟨g,4,none⟩ = some (.int .i64 r4):=(blk_cell s_.2 4).trans rfl
          go_simp
          with_reducible rfl
        rotate_left
        · simp only [Act.put,List.setIfInBounds_toArray,List.set_cons_zero,List.set_cons_succ]
          rfl
        refine one_ (i:=3) (N:=some 26) #[true,true,true,true,false,true,true,false,false,true,true,false,false,false,true,true,false,false,false,false] rfl rfl (by kernel_rfl) (by decide) (fun K hK => ?_)
        refine goes_ Tryd.func18 (by kernel_rfl) rfl #[.int .i64 r1] (by rfl) rfl rfl (by (try simp only [List.map_toArray,List.map_cons,List.map_nil]);first|done|rfl) ?_
        refine (IC1.out _ (HG.out.below hHeld.1.bel)).mono ?_
        rintro e_ w6 ⟨rfl,hb_⟩
        have hS_ : PB w w6 b (L ++ [c0]) ∧ w6.heap[g]? = some (.cells #[.int .u8 r0,.int .i64 r1,.string r2,.int .i64 r3,.int .i64 r4] 31 (0,0)):=⟨hHeld.1.below hb_,blk_below hHeld.2 hb_⟩
        clear hb_
        refine ⟨_,rfl,hK.out _ _ hS_ (fun _ => ?_)⟩
        clear hK K hHeld
        have hHeld:=hS_
        clear hS_
        refine norm_ (a':=?_) ?_ ?_
        rotate_left
        · show Act.put _ (some 26) _ = _
          simp only [Act.put,List.setIfInBounds_toArray,List.set_cons_zero,List.set_cons_succ]
          rfl
        refine pure_ (i:=4) (N:=some 27) (v:=?_) (a':=?_) #[true,true,true,true,true,true,true,false,false,true,true,false,false,false,true,true,false,false,false,false] rfl rfl (by kernel_rfl) (fun _ _ _ h => by cases h.1) (Or.inl ⟨by rfl,?_⟩) ?_ ?_
        rotate_left
        · intro w'
          have a_:=A27.out w'
          go_simp
          with_reducible rfl
        rotate_left
        · simp only [Act.put,List.setIfInBounds_toArray,List.set_cons_zero,List.set_cons_succ]
          rfl
        refine pure_ (i:=7) (N:=some 30) (v:=?_) (a':=?_) #[true,true,true,true,true,true,true,true,false,true,true,false,false,false,true,true,false,false,false,false] rfl rfl (by kernel_rfl) (fun _ _ _ h => by cases h.1) (Or.inl ⟨by rfl,?_⟩) ?_ ?_
        rotate_left
        · intro w'
          have a_:=A30.out w'
          go_simp
          with_reducible rfl
        rotate_left
        · simp only [Act.put,List.setIfInBounds_toArray,List.set_cons_zero,List.set_cons_succ]
          rfl
        refine pure_ (i:=8) (N:=some 31) (v:=?_) (a':=?_) #[true,true,true,true,true,true,true,true,true,true,true,false,false,false,true,true,false,false,false,false] rfl rfl (by kernel_rfl) (fun _ _ _ h => by cases h.1) (Or.inl ⟨by rfl,?_⟩) ?_ ?_
        rotate_left
        · intro w'
          have a_:=A31.out w'
          go_simp
          with_reducible rfl
        rotate_left
        · simp only [Act.put,List.setIfInBounds_toArray,List.set_cons_zero,List.set_cons_succ]
          rfl
        refine one_ (i:=11) (N:=some 34) #[true,true,true,true,true,true,true,true,true,true,true,true,false,false,true,true,false,false,false,false] rfl rfl (by kernel_rfl) (by decide) (fun K hK => ?_)
        refine goes_ Tryd.func19 (by kernel_rfl) rfl #[.int .i64 r3] (by rfl) rfl rfl (by (try simp only [List.map_toArray,List.map_cons,List.map_nil]);first|done|rfl) ?_
        refine (WC.out _ (HG.out.below hHeld.1.bel)).mono ?_
        rintro e_ w7 ⟨rfl,rfl⟩
        have hS_:=hHeld
        refine ⟨_,rfl,hK.out _ _ hS_ (fun _ => ?_)⟩
        clear hK K hHeld
        have hHeld:=hS_
        clear hS_
        refine norm_ (a':=?_) ?_ ?_
        rotate_left
        · show Act.put _ (some 34) _ = _
          simp only [Act.put,List.setIfInBounds_toArray,List.set_cons_zero,List.set_cons_succ]
          rfl
        refine pure_ (i:=12) (N:=some 35) (v:=?_) (a':=?_) #[true,true,true,true,true,true,true,true,true,true,true,true,true,false,true,true,false,false,false,false] rfl rfl (by kernel_rfl) (fun _ _ _ h => by cases h.1) (Or.inl ⟨by rfl,?_⟩) ?_ ?_
        rotate_left
        · intro w'
          have a_:=A35.out w'
          go_simp
          with_reducible rfl
        rotate_left
        · simp only [Act.put,List.setIfInBounds_toArray,List.set_cons_zero,List.set_cons_succ]
          rfl
        refine pure_ (i:=13) (N:=some 36) (v:=?_) (a':=?_) #[true,true,true,true,true,true,true,true,true,true,true,true,true,true,true,true,false,false,false,false] rfl rfl (by kernel_rfl) (fun _ _ _ h => by cases h.1) (Or.inl ⟨by rfl,?_⟩) ?_ ?_
        rotate_left
        · intro w'
          have a_:=A36.out w'
          go_simp
          with_reducible rfl
        rotate_left
        · simp only [Act.put,List.setIfInBounds_toArray,List.set_cons_zero,List.set_cons_succ]
          rfl
        refine one_ (i:=16) (N:=some 39) #[true,true,true,true,true,true,true,true,true,true,true,true,true,true,true,true,true,false,false,false] rfl rfl (by kernel_rfl) (by decide) (fun K hK => ?_)
        refine goes_ Tryd.func18 (by kernel_rfl) rfl #[.int .i64 r4] (by rfl) rfl rfl (by (try simp only [List.map_toArray,List.map_cons,List.map_nil]);first|done|rfl) ?_
        refine (IC4.out _ (HG.out.below hHeld.1.bel)).mono ?_
        rintro e_ w8 ⟨rfl,hb_⟩
        have hS_ : PB w w8 b (L ++ [c0]) ∧ w8.heap[g]? = some (.cells #[.int .u8 r0,.int .i64 r1,.string r2,.int .i64 r3,.int .i64 r4] 31 (0,0)):=⟨hHeld.1.below hb_,blk_below hHeld.2 hb_⟩
        clear hb_
        refine ⟨_,rfl,hK.out _ _ hS_ (fun _ => ?_)⟩
        clear hK K hHeld
        have hHeld:=hS_
        clear hS_
        refine norm_ (a':=?_) ?_ ?_
        rotate_left
        · show Act.put _ (some 39) _ = _
          simp only [Act.put,List.setIfInBounds_toArray,List.set_cons_zero,List.set_cons_succ]
          rfl
        refine pure_ (i:=17) (N:=some 40) (v:=?_) (a':=?_) #[true,true,true,true,true,true,true,true,true,true,true,true,true,true,true,true,true,true,false,false] rfl rfl (by kernel_rfl) (fun _ _ _ h => by cases h.1) (Or.inl ⟨by rfl,?_⟩) ?_ ?_
        rotate_left
        · intro w'
          have a_:=A40.out w'
          go_simp
          with_reducible rfl
        rotate_left
        · simp only [Act.put,List.setIfInBounds_toArray,List.set_cons_zero,List.set_cons_succ]
          rfl
        refine pure_ (i:=18) (N:=some 41) (v:=?_) (a':=?_) #[true,true,true,true,true,true,true,true,true,true,true,true,true,true,true,true,true,true,true,false] rfl rfl (by kernel_rfl) (fun _ _ _ h => by cases h.1) (Or.inl ⟨by rfl,?_⟩) ?_ ?_
        rotate_left
        · intro w'
          have a_:=A41.out w'
          go_simp
          with_reducible rfl
        rotate_left
        · simp only [Act.put,List.setIfInBounds_toArray,List.set_cons_zero,List.set_cons_succ]
          rfl
        refine last_ (i:=19) (N:=some 42) #[true,true,true,true,true,true,true,true,true,true,true,true,true,true,true,true,true,true,true,true] rfl rfl (by kernel_rfl) (by decide) (fun K hK => ?_)
        refine goes_ Tryd.func17 (by kernel_rfl) rfl #[.pointer (some ⟨b,0,none⟩),.string s41] (by rfl) rfl rfl (by (try simp only [List.map_toArray,List.map_cons,List.map_nil]);first|done|rfl) ?_
        refine (hHeld.1.writeS s41 (by have h1:=HTL.out;have h2:=H41.out;rw [List.length_append,List.length_singleton];omega)).mono ?_
        rintro e_ w9 ⟨v_,rfl,hp9,_⟩
        refine ⟨_,rfl,hK.out _ _ ?_⟩
        clear hK K hHeld
        refine norm_ (a':=?_) ?_ ?_
        rotate_left
        · show Act.put _ (some 42) _ = _
          simp only [Act.put,List.setIfInBounds_toArray,List.set_cons_zero,List.set_cons_succ]
          rfl
        have HP9:=Aside0.mk hp9
        clear hp9
        refine done_ (by kernel_rfl) ?_
        refine ⟨rfl,?_⟩
        (try simp only [Exit.inBlock,Exit.then])
        rename_i hKK y1 y2 y3 y4
        refine hKK _ _ ?_
        clear hKK
        go_wp2
        repeat (go_quiet (fail);try go_wp2)
        go_roundg k1
        case measure => omega
        case rel => exact ⟨n + 1,rfl,⟨by have:=HN.out;omega⟩,⟨by omega⟩,⟨by rw [HTN.out,← List.append_assoc];exact HP9.out⟩⟩
      · have hn : n = xs.length:=by have:=HNL.out;omega
        subst hn
        clear cn HN HNL
        rw [List.take_length] at HP
        generalize tableL xs = L at HP HT HTE
        rcases HTE.out with ⟨cl,rfl,rfl⟩|⟨cl,rfl,rfl⟩
        · have clb : decide ((L.length : Int) > 262144) = true:=decide_eq_true (by omega)
          clear cl HTE
          go_wp2_with (first|(go_at_call 20;refine (HP.out.len).mono ?_;rintro e w9 ⟨rfl,rfl⟩)|go_in)
          repeat (go_quiet (fail);try go_wp2)
          refine bodyPost_ret (results_tmp2 rfl _ _ _) rfl ?_
          exact ⟨rfl,HP.out.bel⟩
        · have clb : decide ((L.length : Int) > 262144) = false:=decide_eq_false (by omega)
          clear cl HTE
          go_wp2_with (first|(go_at_call 20;refine (HP.out.len).mono ?_;rintro e w9 ⟨rfl,rfl⟩)|(go_at_call 21;refine (HP.out.string).mono ?_;rintro e w10 ⟨rfl,hb10⟩;have HB10:=Aside0.mk hb10;clear hb10)|go_in)
          repeat (go_quiet (fail);try go_wp2)
          refine bodyPost_ret (results_tmp2 rfl _ _ _) rfl ?_
          exact ⟨rfl,HB10.out⟩
theorem table_calls {w : World} {A : Option Addr} {c : Nat} {xs : List RW} (hG : GV w) (h : Kd.C kR w A xs.length xs) :
    Calls Tryd.prog 8 #[.slice A xs.length c] w fun e w' => e = .returned (.tuple #[.string (tableF xs).1,.int .i64 (tableF xs).2]) ∧ Below w.heap.size w w':=by
  by_cases hw : wrongF xs = 0
  · refine table_ok hG h hw ?_
    unfold tableF
    rw [if_neg (fun h => h hw)]
    by_cases hl : (tableL xs).length > 262144
    · rw [if_pos hl];exact .inl ⟨hl,rfl,rfl⟩
    · rw [if_neg hl];exact .inr ⟨hl,rfl,rfl⟩
  · have e : tableF xs = (⟨#[]⟩,wrongF xs):=by unfold tableF;rw [if_pos hw]
    rw [e]
    exact table_no hG h hw
end Go.Proofs.YtifigmamaakigaaDoor.V

