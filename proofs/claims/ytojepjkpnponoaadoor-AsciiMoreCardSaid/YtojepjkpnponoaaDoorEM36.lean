import Derived.Test.YtojepjkpnponoaaDoorEAReadW
import Derived.Test.YtojepjkpnponoaaDoorEM33
import Derived.Lib.IndexLaws
import Derived.Test.YtojepjkpnponoaaDoorEAsc1
section
namespace Go.Proofs.YtojepjkpnponoaaDoor.Asc
open Go Go.RowKit Go.Proofs.YtojepjkpnponoaaDoorW.PrintWords Go.Proofs.YtojepjkpnponoaaDoorW.PrintLast Go.Proofs.YtojepjkpnponoaaDoorW.PrintMore
set_option linter.unusedVariables false
set_option linter.unusedSimpArgs false
def ex1 : ByteArray:=⟨#[97,97,103,32,49,32,48,32,49,32,48,32,48,32,49,10,50,32,51,10,50,10]⟩
def ex2 : ByteArray:=⟨#[97,97,103,32,48,32,48,32,48,32,48,10]⟩
theorem ex1_read : readF ex1 = (⟨1,[],[⟨2,3,0⟩],[],[2],[],[],[],[],[],[]⟩,0,0):=by kernel_rfl
theorem ex2_read : readF ex2 = (x0S,0,40):=by kernel_rfl
theorem own_form {α : Type} {d : Kd α} {e : Nat} {W : World} {base : Nat} {ok : Nat → Prop} {v : Value} {xs : List α} (h : d.R e W base ok v xs) (h0 : 0 < xs.length) : ∃ g c,v = .slice (some ⟨g,0,none⟩) xs.length c:=by
  obtain ⟨inner,ho⟩:=Kd.R_own h
  rcases ho.2 with ⟨_,h1⟩|⟨g,cap,cur,rfl,_⟩
  · omega
  · exact ⟨g,cap,rfl⟩
theorem latch_cells {W : World} {base : Nat} {ok : Nat → Prop} {A : Option Addr} {n c : Nat} {x : S108} (h : k108.R 108 W base ok (.slice A n c) [x]) : ∃ g,A = some ⟨g,0,none⟩ ∧ W.cell? ⟨g,0,none⟩ = some (.int .i64 x.f0) ∧ W.cell? ⟨g,1,none⟩ = some (.int .i64 x.f1) ∧ W.cell? ⟨g,2,none⟩ = some (.int .i64 x.f2):=by
  obtain ⟨g,c',he⟩:=own_form h (Nat.lt_succ_self 0)
  injection he with he _ _
  subst he
  obtain ⟨ad,ea,h0,h1,h2⟩:=C_latch_get (Kd.R_reads' h).2.2 0 (Nat.lt_succ_self 0)
  injection ea with ea
  subst ea
  simp only [Nat.zero_mul,add_plain,Nat.zero_add] at h0 h1 h2
  exact ⟨g,rfl,h0,h1,h2⟩
theorem int_cell {W : World} {base : Nat} {ok : Nat → Prop} {A : Option Addr} {n c : Nat} {x : Int} (h : (Kd.int .i64).R 3 W base ok (.slice A n c) [x]) : ∃ g,A = some ⟨g,0,none⟩ ∧ W.cell? ⟨g,0,none⟩ = some (.int .i64 x):=by
  obtain ⟨g,c',he,_,hc⟩:=row_some h (Nat.lt_succ_self 0)
  injection he with he _ _
  exact ⟨g,he,hc 0 (Nat.lt_succ_self 0)⟩
set_option maxHeartbeats 4000000 in
set_option maxRecDepth 100000 in
theorem works_calls {w : World} (hG : GV w) : Calls Tryd.prog 25 #[] w fun e w' => e = .returned (.bool true) ∧ Below w.heap.size w w':=by
  have hR1:=read_calls (s:=ex1) hG (by decide)
  rw [ex1_read] at hR1
  unfold ReadEnd ex1 at hR1
  dsimp only at hR1
  have HR1:=Aside0.mk hR1
  have HG:=Aside0.mk hG
  clear hR1 hG
  go_enter Tryd.func25,Tryd.ntmps25
  go_upto_region 2 with (first|(go_at_call 29;refine HR1.out.mono ?_;rintro e w1 ⟨v,rfl,hrows,hb⟩;obtain ⟨v1,v2,v3,v4,v5,v6,v7,v8,v9,v10⟩:=v;obtain ⟨A1_,n1_,rfl⟩:=Kd.R_slice (CRows.r1 hrows);obtain ⟨A2_,n2_,rfl⟩:=Kd.R_slice (CRows.r2 hrows);obtain ⟨A3_,n3_,rfl⟩:=Kd.R_slice (CRows.r3 hrows);obtain ⟨A4_,n4_,rfl⟩:=Kd.R_slice (CRows.r4 hrows);obtain ⟨A5_,n5_,rfl⟩:=Kd.R_slice (CRows.r5 hrows);obtain ⟨A6_,n6_,rfl⟩:=Kd.R_slice (CRows.r6 hrows);obtain ⟨A7_,n7_,rfl⟩:=Kd.R_slice (CRows.r7 hrows);obtain ⟨A8_,n8_,rfl⟩:=Kd.R_slice (CRows.r8 hrows);obtain ⟨A9_,n9_,rfl⟩:=Kd.R_slice (CRows.r9 hrows);obtain ⟨A10_,n10_,rfl⟩:=Kd.R_slice (CRows.r10 hrows);dsimp only [cellsV];have HROW:=Aside0.mk hrows;have HB1:=Aside0.mk hb;clear hrows hb))
  have hb1:=blk_new w1 (.cells #[.int .i64 1,.slice A1_ 0 n1_,.slice A2_ 1 n2_,.slice A3_ 0 n3_,.slice A4_ 1 n4_,.slice A5_ 0 n5_,.slice A6_ 0 n6_,.slice A7_ 0 n7_,.slice A8_ 0 n8_,.slice A9_ 0 n9_,.slice A10_ 0 n10_] 65)
  have hb2:=blk_new (w1.alloc (.cells #[.int .i64 1,.slice A1_ 0 n1_,.slice A2_ 1 n2_,.slice A3_ 0 n3_,.slice A4_ 1 n4_,.slice A5_ 0 n5_,.slice A6_ 0 n6_,.slice A7_ 0 n7_,.slice A8_ 0 n8_,.slice A9_ 0 n9_,.slice A10_ 0 n10_] 65)) (.cells #[.int .i64 0,.int .i64 0] 40)
  simp only [World.size_alloc] at hb2
  have hb1:=blk_alloc hb1 (.cells #[.int .i64 0,.int .i64 0] 40)
  have hbe : Below w1.heap.size w1 ((w1.alloc (.cells #[.int .i64 1,.slice A1_ 0 n1_,.slice A2_ 1 n2_,.slice A3_ 0 n3_,.slice A4_ 1 n4_,.slice A5_ 0 n5_,.slice A6_ 0 n6_,.slice A7_ 0 n7_,.slice A8_ 0 n8_,.slice A9_ 0 n9_,.slice A10_ 0 n10_] 65)).alloc (.cells #[.int .i64 0,.int .i64 0] 40)):=below_alloc (below_alloc (Below.refl _ _) _) _
  obtain ⟨g2,e2,y20,y21,y22⟩:=latch_cells HROW.out.r2
  obtain ⟨g4,e4,y40⟩:=int_cell HROW.out.r4
  subst e2
  subst e4
  replace y20:=pw_cell_below hbe y20
  replace y21:=pw_cell_below hbe y21
  replace y22:=pw_cell_below hbe y22
  replace y40:=pw_cell_below hbe y40
  have hB2:=HB1.out.trans (hbe.mono HB1.out.size)
  clear hbe HROW
  generalize hw2 : (w1.alloc (.cells #[.int .i64 1,.slice A1_ 0 n1_,.slice (some ⟨g2,0,none⟩) 1 n2_,.slice A3_ 0 n3_,.slice (some ⟨g4,0,none⟩) 1 n4_,.slice A5_ 0 n5_,.slice A6_ 0 n6_,.slice A7_ 0 n7_,.slice A8_ 0 n8_,.slice A9_ 0 n9_,.slice A10_ 0 n10_] 65)).alloc (.cells #[.int .i64 0,.int .i64 0] 40) = w2 at hb1 hb2 y20 y21 y22 y40 hB2 ⊢
  clear hw2 HB1
  have hR2:=read_calls (s:=ex2) (GV_below HG.out hB2) (by decide)
  rw [ex2_read] at hR2
  unfold ReadEnd ex2 at hR2
  dsimp only [x0S] at hR2
  have HR2:=Aside0.mk hR2
  have HB2:=Aside0.mk hB2
  generalize w1.heap.size = b1 at hb1 hb2 ⊢
  have K1:=Aside0.mk hb1
  have K2:=Aside0.mk hb2
  have Y0:=Aside0.mk y20
  have Y1:=Aside0.mk y21
  have Y2:=Aside0.mk y22
  have Y4:=Aside0.mk y40
  clear hR2 hB2 hb1 hb2 y20 y21 y22 y40
  go_upto_region 3 with (first|(go_at_call 29;refine HR2.out.mono ?_;rintro e w3 ⟨v,rfl,hrows,hb⟩;obtain ⟨v1,v2,v3,v4,v5,v6,v7,v8,v9,v10⟩:=v;obtain ⟨A1q,n1q,rfl⟩:=Kd.R_slice (CRows.r1 hrows);obtain ⟨A2q,n2q,rfl⟩:=Kd.R_slice (CRows.r2 hrows);obtain ⟨A3q,n3q,rfl⟩:=Kd.R_slice (CRows.r3 hrows);obtain ⟨A4q,n4q,rfl⟩:=Kd.R_slice (CRows.r4 hrows);obtain ⟨A5q,n5q,rfl⟩:=Kd.R_slice (CRows.r5 hrows);obtain ⟨A6q,n6q,rfl⟩:=Kd.R_slice (CRows.r6 hrows);obtain ⟨A7q,n7q,rfl⟩:=Kd.R_slice (CRows.r7 hrows);obtain ⟨A8q,n8q,rfl⟩:=Kd.R_slice (CRows.r8 hrows);obtain ⟨A9q,n9q,rfl⟩:=Kd.R_slice (CRows.r9 hrows);obtain ⟨A10q,n10q,rfl⟩:=Kd.R_slice (CRows.r10 hrows);dsimp only [cellsV];have HBB:=Aside0.mk hb;clear hrows hb))
  have hf:=blk_new (w3.alloc (.cells #[.int .i64 0,.slice A1q 0 n1q,.slice A2q 0 n2q,.slice A3q 0 n3q,.slice A4q 0 n4q,.slice A5q 0 n5q,.slice A6q 0 n6q,.slice A7q 0 n7q,.slice A8q 0 n8q,.slice A9q 0 n9q,.slice A10q 0 n10q] 65)) (.cells #[.int .i64 0,.int .i64 40] 40)
  simp only [World.size_alloc] at hf
  have hbe : Below w3.heap.size w3 ((w3.alloc (.cells #[.int .i64 0,.slice A1q 0 n1q,.slice A2q 0 n2q,.slice A3q 0 n3q,.slice A4q 0 n4q,.slice A5q 0 n5q,.slice A6q 0 n6q,.slice A7q 0 n7q,.slice A8q 0 n8q,.slice A9q 0 n9q,.slice A10q 0 n10q] 65)).alloc (.cells #[.int .i64 0,.int .i64 40] 40)):=below_alloc (below_alloc (Below.refl _ _) _) _
  have hbb:=HBB.out.trans (hbe.mono HBB.out.size)
  have hB4:=HB2.out.trans (hbb.mono HB2.out.size)
  have x0:=pw_cell_below hbb (show w2.cell? ⟨b1,0,none⟩ = some (.int .i64 1) from blk_cell K1.out 0)
  have x2:=pw_cell_below hbb (show w2.cell? ⟨b1,2,none⟩ = some (.slice (some ⟨g2,0,none⟩) 1 n2_) from blk_cell K1.out 2)
  have x4:=pw_cell_below hbb (show w2.cell? ⟨b1,4,none⟩ = some (.slice (some ⟨g4,0,none⟩) 1 n4_) from blk_cell K1.out 4)
  have f0:=pw_cell_below hbb (show w2.cell? ⟨b1 + 1,0,none⟩ = some (.int .i64 0) from blk_cell K2.out 0)
  have f1:=pw_cell_below hbb (show w2.cell? ⟨b1 + 1,1,none⟩ = some (.int .i64 0) from blk_cell K2.out 1)
  have y20:=pw_cell_below hbb Y0.out
  have y21:=pw_cell_below hbb Y1.out
  have y22:=pw_cell_below hbb Y2.out
  have y40:=pw_cell_below hbb Y4.out
  have z0:=blk_cell hf 0
  have z1:=blk_cell hf 1
  have HB4:=Aside0.mk hB4
  clear hf hbe hbb hB4
  generalize (w3.alloc (.cells #[.int .i64 0,.slice A1q 0 n1q,.slice A2q 0 n2q,.slice A3q 0 n3q,.slice A4q 0 n4q,.slice A5q 0 n5q,.slice A6q 0 n6q,.slice A7q 0 n7q,.slice A8q 0 n8q,.slice A9q 0 n9q,.slice A10q 0 n10q] 65)).alloc (.cells #[.int .i64 0,.int .i64 40] 40) = w4 at x0 x2 x4 f0 f1 y20 y21 y22 y40 z0 z1 HB4 ⊢
  generalize w3.heap.size = b3 at z0 z1 ⊢
  go_wp2
  go_ret
  exact ⟨rfl,HB4.out⟩
end Go.Proofs.YtojepjkpnponoaaDoor.Asc
end
section
namespace Go.Proofs.YtojepjkpnponoaaDoor.Asc
open Go Go.RowKit Go.Proofs.YtojepjkpnponoaaDoorW.PrintWords
set_option linter.unusedVariables false
set_option linter.unusedSimpArgs false
theorem lineR_place {s : ByteArray} {p : Nat} {l : ByteArray} {q : Nat} (h : lineF s p = some (l,q)) : q ≤ s.size:=by
  unfold lineF at h
  split at h
  · cases h
  · have hl:=Stim.indexByte_lt (s.extract p s.size).data.toList 10
    have hd : (s.extract p s.size).data.toList.length ≤ s.size - p:=by
      rw [Stim.extract_list,List.length_take,List.length_drop,data_length]
      omega
    injection h with h
    injection h with h1 h2
    omega
theorem rowR_place {s : ByteArray} {p a b : Nat} {x : List Int} {q : Nat} (h : rowF s p a b = some (x,q)) : q ≤ s.size:=by
  unfold rowF at h
  obtain ⟨y,hy,h⟩:=Option.bind_eq_some_iff.1 h
  obtain ⟨ns,hn,h⟩:=Option.bind_eq_some_iff.1 h
  split at h
  · cases h
  · injection h with h
    injection h with h1 h2
    subst h2
    exact lineR_place (l:=y.1) (q:=y.2) hy
def Rd {α : Type} (s : ByteArray) (m : Nat) : Except Nat (List α × Nat) → Prop
  | .error e => e ≤ s.size
  | .ok (l,q) => q ≤ s.size ∧ l.length = m
theorem listF_rd (s : ByteArray) : ∀ (n p : Nat),p ≤ s.size → Rd s n (listF s n p)
  | 0,p,h => ⟨h,rfl⟩
  | n + 1,p,h => by
    unfold listF
    cases hr : rowF s p 1 1 with
    | none => exact h
    | some y =>
      have ih:=listF_rd s n y.2 (rowR_place (x:=y.1) (q:=y.2) hr)
      dsimp only
      cases hl : listF s n y.2 with
      | error e => rw [hl] at ih;exact ih
      | ok z => rw [hl] at ih;exact ⟨ih.1,by simp [ih.2]⟩
theorem latchesF_rd (s : ByteArray) : ∀ (n p : Nat),p ≤ s.size → Rd s n (latchesF s n p)
  | 0,p,h => ⟨h,rfl⟩
  | n + 1,p,h => by
    unfold latchesF
    cases hr : rowF s p 2 3 with
    | none => exact h
    | some y =>
      have ih:=latchesF_rd s n y.2 (rowR_place (x:=y.1) (q:=y.2) hr)
      dsimp only
      cases hl : latchesF s n y.2 with
      | error e => rw [hl] at ih;exact ih
      | ok z => rw [hl] at ih;exact ⟨ih.1,by simp [ih.2]⟩
theorem andsF_rd (s : ByteArray) : ∀ (n p : Nat),p ≤ s.size → Rd s n (andsF s n p)
  | 0,p,h => ⟨h,rfl⟩
  | n + 1,p,h => by
    unfold andsF
    cases hr : rowF s p 3 3 with
    | none => exact h
    | some y =>
      have ih:=andsF_rd s n y.2 (rowR_place (x:=y.1) (q:=y.2) hr)
      dsimp only
      cases hl : andsF s n y.2 with
      | error e => rw [hl] at ih;exact ih
      | ok z => rw [hl] at ih;exact ⟨ih.1,by simp [ih.2]⟩
theorem sizesF_rd (s : ByteArray) : ∀ (n p : Nat),p ≤ s.size → Rd s n (sizesF' s n p)
  | 0,p,h => ⟨h,rfl⟩
  | n + 1,p,h => by
    unfold sizesF'
    cases hr : rowF s p 1 1 with
    | none => exact h
    | some y =>
      have ih:=sizesF_rd s n y.2 (rowR_place (x:=y.1) (q:=y.2) hr)
      dsimp only
      split
      · exact h
      · cases hl : sizesF' s n y.2 with
        | error e => rw [hl] at ih;exact ih
        | ok z => rw [hl] at ih;exact ⟨ih.1,by simp [ih.2]⟩
theorem justF_rd (s : ByteArray) : ∀ (ks : List Int) (p : Nat),p ≤ s.size → Rd s ks.length (justF s ks p)
  | [],p,h => ⟨h,rfl⟩
  | k :: ks,p,h => by
    unfold justF
    have h1:=listF_rd s k.toNat p h
    cases hr : listF s k.toNat p with
    | error e => rw [hr] at h1;exact h1
    | ok y =>
      rw [hr] at h1
      have ih:=justF_rd s ks y.2 h1.1
      dsimp only
      cases hl : justF s ks y.2 with
      | error e => rw [hl] at ih;exact ih
      | ok z => rw [hl] at ih;exact ⟨ih.1,by simp [ih.2]⟩
def BodyR (s : ByteArray) (m0 m1 m2 m3 m4 m5 m6 m7 m8 : Nat) : Except Nat (S65 × Nat) → Prop
  | .error e => e ≤ s.size
  | .ok (c,q) => q ≤ s.size ∧ c.f0 = m0 ∧ c.f1.length = m1 ∧ c.f2.length = m2 ∧ c.f3.length = m3 ∧ c.f4.length = m5 ∧ c.f5.length = m6 ∧ c.f6.length = m7 ∧ c.f7.length = m8 ∧ c.f8.length = m4
theorem bodyN_rd (s : ByteArray) (m0 m1 m2 m3 m4 m5 m6 m7 m8 p : Nat) (h : p ≤ s.size) : BodyR s m0 m1 m2 m3 m4 m5 m6 m7 m8 (bodyN s m0 m1 m2 m3 m4 m5 m6 m7 m8 p):=by
  unfold bodyN
  have h1:=listF_rd s m1 p h
  cases r1 : listF s m1 p with
  | error e => rw [r1] at h1;exact h1
  | ok y1 =>
  rw [r1] at h1
  obtain ⟨x1,p⟩:=y1
  show BodyR s m0 m1 m2 m3 m4 m5 m6 m7 m8 (bL s m0 m3 m4 m5 m6 m7 m8 x1 (latchesF s m2 p))
  have h2:=latchesF_rd s m2 p h1.1
  cases r2 : latchesF s m2 p with
  | error e => rw [r2] at h2;exact h2
  | ok y2 =>
  rw [r2] at h2
  obtain ⟨x2,p⟩:=y2
  show BodyR s m0 m1 m2 m3 m4 m5 m6 m7 m8 (bO s m0 m4 m5 m6 m7 m8 x1 x2 (listF s m3 p))
  have h3:=listF_rd s m3 p h2.1
  cases r3 : listF s m3 p with
  | error e => rw [r3] at h3;exact h3
  | ok y3 =>
  rw [r3] at h3
  obtain ⟨x3,p⟩:=y3
  show BodyR s m0 m1 m2 m3 m4 m5 m6 m7 m8 (bB s m0 m4 m6 m7 m8 x1 x2 x3 (listF s m5 p))
  have h5:=listF_rd s m5 p h3.1
  cases r5 : listF s m5 p with
  | error e => rw [r5] at h5;exact h5
  | ok y5 =>
  rw [r5] at h5
  obtain ⟨x5,p⟩:=y5
  show BodyR s m0 m1 m2 m3 m4 m5 m6 m7 m8 (bC s m0 m4 m7 m8 x1 x2 x3 x5 (listF s m6 p))
  have h6:=listF_rd s m6 p h5.1
  cases r6 : listF s m6 p with
  | error e => rw [r6] at h6;exact h6
  | ok y6 =>
  rw [r6] at h6
  obtain ⟨x6,p⟩:=y6
  show BodyR s m0 m1 m2 m3 m4 m5 m6 m7 m8 (bZ s m0 m4 m8 x1 x2 x3 x5 x6 (sizesF' s m7 p))
  have h7:=sizesF_rd s m7 p h6.1
  cases r7 : sizesF' s m7 p with
  | error e => rw [r7] at h7;exact h7
  | ok y7 =>
  rw [r7] at h7
  obtain ⟨x7,p⟩:=y7
  show BodyR s m0 m1 m2 m3 m4 m5 m6 m7 m8 (bJ s m0 m4 m8 x1 x2 x3 x5 x6 (justF s x7 p))
  have hj:=justF_rd s x7 p h7.1
  cases rj : justF s x7 p with
  | error e => rw [rj] at hj;exact hj
  | ok yj =>
  rw [rj] at hj
  obtain ⟨xj,p⟩:=yj
  show BodyR s m0 m1 m2 m3 m4 m5 m6 m7 m8 (bF s m0 m4 x1 x2 x3 x5 x6 xj (listF s m8 p))
  have h8:=listF_rd s m8 p hj.1
  cases r8 : listF s m8 p with
  | error e => rw [r8] at h8;exact h8
  | ok y8 =>
  rw [r8] at h8
  obtain ⟨x8,p⟩:=y8
  show BodyR s m0 m1 m2 m3 m4 m5 m6 m7 m8 (bA m0 x1 x2 x3 x5 x6 xj x8 (andsF s m4 p))
  have h4:=andsF_rd s m4 p h8.1
  cases r4 : andsF s m4 p with
  | error e => rw [r4] at h4;exact h4
  | ok y4 =>
  rw [r4] at h4
  obtain ⟨x4,p⟩:=y4
  exact ⟨h4.1,rfl,h1.2,h2.2,h3.2,h5.2,h6.2,hj.2.trans h7.2,h8.2,h4.2⟩
theorem tailGo_place (s : ByteArray) : ∀ (m p : Nat) (n : Bool) (e : Nat),p ≤ s.size → tailGo s m p n = .error e → e ≤ s.size
  | 0,p,n,e,hp,h => by
    unfold tailGo at h
    injection h with h
    omega
  | m + 1,p,n,e,hp,h => by
    unfold tailGo at h
    split at h
    · cases h
    · split at h
      · injection h with h;omega
      · rename_i l q hq
        have hq:=lineR_place hq
        split at h
        · cases hr : tailGo s m q true with
          | error e' => rw [hr] at h;injection h with h;subst h;exact tailGo_place s m q true _ hq hr
          | ok z => rw [hr] at h;cases h
        · split at h
          · exact tailGo_place s m q true e hq h
          · split at h
            · injection h with h;omega
            · cases hr : tailGo s m q false with
              | error e' => rw [hr] at h;injection h with h;subst h;exact tailGo_place s m q false _ hq hr
              | ok z => rw [hr] at h;cases h
theorem tailF_place {s : ByteArray} {p : Nat} (hp : p ≤ s.size) : 0 ≤ (tailF s p).2.2.1 ∧ (tailF s p).2.2.1 ≤ s.size:=by
  unfold tailF
  split
  · exact ⟨Int.le_refl _,Int.natCast_nonneg _⟩
  · split
    · exact ⟨Int.le_refl _,Int.natCast_nonneg _⟩
    · cases hr : tailGo s (s.size + 1) ((p : Nat) : Int).toNat false with
      | error e =>
        have:=tailGo_place s _ _ _ e (by rw [Int.toNat_natCast];exact hp) hr
        exact ⟨Int.natCast_nonneg _,Int.ofNat_le.2 this⟩
      | ok z => exact ⟨Int.le_refl _,Int.natCast_nonneg _⟩
def RightR (s : ByteArray) (r : S65 × Int × Int) : Prop :=
  (r.2.2 ≠ 0 ∧ 0 ≤ r.2.1 ∧ r.2.1 ≤ s.size ∧ r.1.f8 = [] ∧ r.1.f0 = 0) ∨
  (r.2.1 = 0 ∧ r.2.2 = 0 ∧ (lookF r.1).2 = 0 ∧ (headF s).1 = aagB ∧ (headF s).2.2.2 = 0 ∧
    r.1.f0 = (headF s).2.1.getD 0 0 ∧ (r.1.f1.length : Int) = (headF s).2.1.getD 1 0 ∧ (r.1.f2.length : Int) = (headF s).2.1.getD 2 0 ∧ (r.1.f3.length : Int) = (headF s).2.1.getD 3 0 ∧ (r.1.f8.length : Int) = (headF s).2.1.getD 4 0 ∧
    (r.1.f4.length : Int) = (headF s).2.1.getD 5 0 ∧ (r.1.f5.length : Int) = (headF s).2.1.getD 6 0 ∧ (r.1.f6.length : Int) = (headF s).2.1.getD 7 0 ∧ (r.1.f7.length : Int) = (headF s).2.1.getD 8 0)
theorem right_law (s : ByteArray) : RightR s (readF s):=by
  unfold readF
  by_cases h1 : (headF s).2.2.2 ≠ 0
  · rw [if_pos h1]
    exact Or.inl ⟨h1,Int.le_refl _,Int.natCast_nonneg _,rfl,rfl⟩
  rw [if_neg h1]
  by_cases h2 : (headF s).1 ≠ aagB
  · rw [if_pos h2]
    exact Or.inl ⟨by decide,Int.le_refl _,Int.natCast_nonneg _,rfl,rfl⟩
  rw [if_neg h2]
  have h1 : (headF s).2.2.2 = 0:=by omega
  have h2 : (headF s).1 = aagB:=Decidable.not_not.1 h2
  have hk:=head_ok (s:=s) (word:=(headF s).1) (k:=(headF s).2.1) (e:=(headF s).2.2.1) (by rw [← h1])
  have hB:=bodyN_rd s ((headF s).2.1.getD 0 0).toNat ((headF s).2.1.getD 1 0).toNat ((headF s).2.1.getD 2 0).toNat ((headF s).2.1.getD 3 0).toNat ((headF s).2.1.getD 4 0).toNat ((headF s).2.1.getD 5 0).toNat ((headF s).2.1.getD 6 0).toNat ((headF s).2.1.getD 7 0).toNat ((headF s).2.1.getD 8 0).toNat (headF s).2.2.1.toNat (by have:=hk.place;omega)
  generalize bodyN s ((headF s).2.1.getD 0 0).toNat ((headF s).2.1.getD 1 0).toNat ((headF s).2.1.getD 2 0).toNat ((headF s).2.1.getD 3 0).toNat ((headF s).2.1.getD 4 0).toNat ((headF s).2.1.getD 5 0).toNat ((headF s).2.1.getD 6 0).toNat ((headF s).2.1.getD 7 0).toNat ((headF s).2.1.getD 8 0).toNat (headF s).2.2.1.toNat = B at hB ⊢
  cases B with
  | error e => exact Or.inl ⟨(by decide : (42 : Int) ≠ 0),Int.natCast_nonneg _,Int.ofNat_le.2 hB,rfl,rfl⟩
  | ok y =>
    obtain ⟨c,q⟩:=y
    obtain ⟨hq,e0,e1,e2,e3,e4,e5,e6,e7,e8⟩:=hB
    unfold readBody readEnd
    dsimp only
    have hp:=tailF_place hq
    by_cases h3 : (tailF s q).2.2.2 ≠ 0
    · rw [if_pos h3]
      exact Or.inl ⟨h3,hp.1,hp.2,rfl,rfl⟩
    rw [if_neg h3]
    by_cases h4 : (lookF { c with f9:=(tailF s q).1,f10:=(tailF s q).2.1 }).2 ≠ 0
    · rw [if_pos h4]
      exact Or.inl ⟨h4,Int.le_refl _,Int.natCast_nonneg _,rfl,rfl⟩
    rw [if_neg h4]
    have n:=hk.all_
    refine Or.inr ⟨rfl,rfl,Decidable.not_not.1 h4,h2,h1,?_,?_,?_,?_,?_,?_,?_,?_,?_⟩
    · show c.f0 = _;rw [e0];have:=n 0;omega
    · show (c.f1.length : Int) = _;rw [e1];have:=n 1;omega
    · show (c.f2.length : Int) = _;rw [e2];have:=n 2;omega
    · show (c.f3.length : Int) = _;rw [e3];have:=n 3;omega
    · show (c.f8.length : Int) = _;rw [e8];have:=n 4;omega
    · show (c.f4.length : Int) = _;rw [e4];have:=n 5;omega
    · show (c.f5.length : Int) = _;rw [e5];have:=n 6;omega
    · show (c.f6.length : Int) = _;rw [e6];have:=n 7;omega
    · show (c.f7.length : Int) = _;rw [e7];have:=n 8;omega
theorem readF_fits {s : ByteArray} {x : S65} (h : readF s = (x,0,0)) : s.size ≤ 262144 ∧ (∀ r ∈ x.f6,r.length ≤ 16384) ∧ ∀ t ∈ x.f10,t.size ≤ 262144:=by
  unfold readF at h
  by_cases h1 : (headF s).2.2.2 ≠ 0
  · rw [if_pos h1] at h
    injection h with _ h
    injection h with _ h
    exact absurd h h1
  rw [if_neg h1] at h
  by_cases h2 : (headF s).1 ≠ aagB
  · rw [if_pos h2] at h
    injection h with _ h
    injection h with _ h
    cases h
  rw [if_neg h2] at h
  have h1 : (headF s).2.2.2 = 0:=by omega
  have hk:=head_ok (s:=s) (word:=(headF s).1) (k:=(headF s).2.1) (e:=(headF s).2.2.1) (by rw [← h1])
  refine ⟨hk.size,?_⟩
  cases hB : bodyN s ((headF s).2.1.getD 0 0).toNat ((headF s).2.1.getD 1 0).toNat ((headF s).2.1.getD 2 0).toNat ((headF s).2.1.getD 3 0).toNat ((headF s).2.1.getD 4 0).toNat ((headF s).2.1.getD 5 0).toNat ((headF s).2.1.getD 6 0).toNat ((headF s).2.1.getD 7 0).toNat ((headF s).2.1.getD 8 0).toNat (headF s).2.2.1.toNat with
  | error e =>
    rw [hB] at h
    injection h with _ h
    injection h with _ h
    cases h
  | ok y =>
    obtain ⟨c,q⟩:=y
    rw [hB] at h
    have hj:=bodyN_just hB
    unfold readBody readEnd at h
    dsimp only at h
    by_cases h3 : (tailF s q).2.2.2 ≠ 0
    · rw [if_pos h3] at h
      injection h with _ h
      injection h with _ h
      exact absurd h h3
    rw [if_neg h3] at h
    by_cases h4 : (lookF { c with f9:=(tailF s q).1,f10:=(tailF s q).2.1 }).2 ≠ 0
    · rw [if_pos h4] at h
      injection h with _ h
      injection h with _ h
      exact absurd h h4
    rw [if_neg h4] at h
    injection h with h _
    subst h
    exact ⟨hj,tailF_size s q hk.size⟩
end Go.Proofs.YtojepjkpnponoaaDoor.Asc
end
section
namespace Go.Proofs.YtojepjkpnponoaaDoor.Asc
open Go Go.RowKit Go.Proofs.YtojepjkpnponoaaDoorW.PrintWords Go.Proofs.YtojepjkpnponoaaDoorW.PrintLast Go.Proofs.YtojepjkpnponoaaDoorW.PrintMore
set_option linter.unusedVariables false
set_option linter.unusedSimpArgs false
attribute [local go_sem high] eqA40
set_option maxHeartbeats 4000000 in
set_option maxRecDepth 100000 in
theorem more_early {w : World} {s note : ByteArray} {x : S65} {fa fc : Int} (hG : GV w) (hs : s.size ≤ 140737488355328) (hn : note.size ≤ 140737488355328) (hr : readF s = (x,fa,fc)) (h0 : fc ≠ 0 ∨ (fa = 0 ∧ fc = 0 ∧ (262134 < s.size + note.size ∨ (s.size + note.size ≤ 262134 ∧ 1000 < x.f10.length)))) :
    Calls Tryd.prog 10 #[.string s,.string note] w fun e w' => e = .returned (.bool true) ∧ Below w.heap.size w w':=by
  obtain ⟨y0,y1,y2,y3,y4,y5,y6,y7,y8,y9,y10⟩:=x
  have HG:=Aside0.mk hG
  have HS:=Aside0.mk hs
  have HRF:=Aside0.mk hr
  have H0:=Aside0.mk h0
  have HN:=Aside0.mk hn
  clear hG hs hr h0 hn
  go_enter Tryd.func10,Tryd.ntmps10
  go_upto_region 4 with (first|(go_at_call 25;refine (works_calls HG.out).mono ?_;rintro e w1 ⟨rfl,hb1⟩;have HB1:=Aside0.mk hb1;clear hb1)|(go_at_call 29;refine (read_calls (GV_below HG.out HB1.out) HS.out).mono ?_;rw [HRF.out];rintro e w2 ⟨v,rfl,hrows,hb⟩;obtain ⟨v1,v2,v3,v4,v5,v6,v7,v8,v9,v10⟩:=v;obtain ⟨A1,n1,rfl⟩:=Kd.R_slice (CRows.r1 hrows);obtain ⟨A2,n2,rfl⟩:=Kd.R_slice (CRows.r2 hrows);obtain ⟨A3,n3,rfl⟩:=Kd.R_slice (CRows.r3 hrows);obtain ⟨A4,n4,rfl⟩:=Kd.R_slice (CRows.r4 hrows);obtain ⟨A5,n5,rfl⟩:=Kd.R_slice (CRows.r5 hrows);obtain ⟨A6,n6,rfl⟩:=Kd.R_slice (CRows.r6 hrows);obtain ⟨A7,n7,rfl⟩:=Kd.R_slice (CRows.r7 hrows);obtain ⟨A8,n8,rfl⟩:=Kd.R_slice (CRows.r8 hrows);obtain ⟨A9,n9,rfl⟩:=Kd.R_slice (CRows.r9 hrows);obtain ⟨A10,n10,rfl⟩:=Kd.R_slice (CRows.r10 hrows);have HB2:=Aside0.mk (HB1.out.trans (hb.mono HB1.out.size));dsimp only [cellsV];clear hrows hb))
  have hc:=blk_alloc (blk_new w2 (.cells #[.int .i64 y0,.slice A1 y1.length n1,.slice A2 y2.length n2,.slice A3 y3.length n3,.slice A4 y4.length n4,.slice A5 y5.length n5,.slice A6 y6.length n6,.slice A7 y7.length n7,.slice A8 y8.length n8,.slice A9 y9.length n9,.slice A10 y10.length n10] 65)) (.cells #[.int .i64 fa,.int .i64 fc] 40)
  have hf:=blk_new (w2.alloc (.cells #[.int .i64 y0,.slice A1 y1.length n1,.slice A2 y2.length n2,.slice A3 y3.length n3,.slice A4 y4.length n4,.slice A5 y5.length n5,.slice A6 y6.length n6,.slice A7 y7.length n7,.slice A8 y8.length n8,.slice A9 y9.length n9,.slice A10 y10.length n10] 65)) (.cells #[.int .i64 fa,.int .i64 fc] 40)
  simp only [World.size_alloc] at hf
  have hbe : Below w2.heap.size w2 ((w2.alloc (.cells #[.int .i64 y0,.slice A1 y1.length n1,.slice A2 y2.length n2,.slice A3 y3.length n3,.slice A4 y4.length n4,.slice A5 y5.length n5,.slice A6 y6.length n6,.slice A7 y7.length n7,.slice A8 y8.length n8,.slice A9 y9.length n9,.slice A10 y10.length n10] 65)).alloc (.cells #[.int .i64 fa,.int .i64 fc] 40)):=below_alloc (below_alloc (Below.refl _ _) _) _
  have HB3:=Aside0.mk (HB2.out.trans (hbe.mono HB2.out.size))
  clear hbe
  generalize (w2.alloc (.cells #[.int .i64 y0,.slice A1 y1.length n1,.slice A2 y2.length n2,.slice A3 y3.length n3,.slice A4 y4.length n4,.slice A5 y5.length n5,.slice A6 y6.length n6,.slice A7 y7.length n7,.slice A8 y8.length n8,.slice A9 y9.length n9,.slice A10 y10.length n10] 65)).alloc (.cells #[.int .i64 fa,.int .i64 fc] 40) = w3 at hc hf HB3 ⊢
  generalize w2.heap.size = g at hc hf ⊢
  have f0 : w3.cell? ⟨g + 1,0,none⟩ = some (.int .i64 fa):=blk_cell hf 0
  have f1 : w3.cell? ⟨g + 1,1,none⟩ = some (.int .i64 fc):=blk_cell hf 1
  have c10 : w3.cell? ⟨g,10,none⟩ = some (.slice A10 y10.length n10):=blk_cell hc 10
  clear hc hf
  have DW:=Aside0.mk (show wrap64 ((s.size : Int) + (note.size : Int)) = (s.size : Int) + (note.size : Int) from IntWalk.wrap64_in _ (by have:=HS.out;have:=HN.out;omega))
  rcases H0.out with h|⟨rfl,rfl,h⟩
  · have b1 : (fc == 0) = false:=by simpa using h
    clear h
    go_wp2
    all_goals (go_ret;exact ⟨by simp,HB3.out⟩)
  · rcases h with h|h
    · have d1 : decide (262134 < wrap64 ((s.size : Int) + (note.size : Int))) = true:=decide_eq_true (by rw [DW.out];omega)
      clear h
      go_wp2
      all_goals (first|(go_ret;exact ⟨by simp,HB3.out⟩)|trace_state)
    · have HL:=Aside0.mk h
      have d1 : decide (262134 < wrap64 ((s.size : Int) + (note.size : Int))) = false:=decide_eq_false (by rw [DW.out];have:=HL.out;omega)
      have d2 : decide (1000 < (y10.length : Int)) = true:=decide_eq_true (by have:=HL.out.2;omega)
      clear h
      go_wp2
      all_goals (first|(go_ret;exact ⟨by simp,HB3.out⟩)|trace_state)
end Go.Proofs.YtojepjkpnponoaaDoor.Asc
end
