import Derived.Test.YtdmngdohlobogaaGreatDoorYBAny
import Derived.Test.YtdmngdohlobogaaGreatDoorYBGate
import Derived.Test.YtdmngdohlobogaaGreatDoorYM27
namespace Go.Proofs.YtdmngdohlobogaaGreatDoor.Asc
open Go Go.RowKit Go.Proofs.YtdmngdohlobogaaGreatDoorW.PrintWords Go.Proofs.YtdmngdohlobogaaGreatDoorW.PrintLast Go.Proofs.YtdmngdohlobogaaGreatDoorW.PrintMore
set_option linter.unusedVariables false
set_option linter.unusedSimpArgs false
def inputsB (n : Nat) : List Int:=(List.range n).map fun i : Nat => 2 * ((i : Int) + 1)
def formB (s : ByteArray) (m0 m1 m2 m3 m5 m6 m7 m8 p : Nat) : Except Nat (S65 × Nat):=match latchesB s m1 m2 p with
 |.error x => .error x
 |.ok (l2,q2) => match listB s m3 q2 with
  |.error x => .error x
  |.ok (l3,q3) => match listB s m5 q3 with
   |.error x => .error x
   |.ok (l4,q4) => match listB s m6 q4 with
    |.error x => .error x
    |.ok (l5,q5) => match justAllB s m7 q5 with
     |.error x => .error x
     |.ok (l6,q6) => match listB s m8 q6 with
      |.error x => .error x
      |.ok (l7,q7) => .ok (⟨(m0 : Int),inputsB m1,l2,l3,l4,l5,l6,l7,[],[],[]⟩,q7)
def readGatesB (s : ByteArray) (a m4 : Nat) : Except Nat (S65 × Nat) → S65 × Int × Int
 |.error e => (x0S,e,42)
 |.ok (c,q) => match gatesB s a m4 q with
  |.error e => (x0S,e,52)
  |.ok (l,r) => readEnd { c with f8:=l } (tailF s r)
def readB (s : ByteArray) : S65 × Int × Int :=
 if (headF s).2.2.2 ≠ 0 then (x0S,0,(headF s).2.2.2)
 else if (headF s).1 ≠ aigB then (x0S,0,40)
 else if (headF s).2.1.getD 0 0 ≠ (headF s).2.1.getD 1 0 + (headF s).2.1.getD 2 0 + (headF s).2.1.getD 4 0 then (x0S,0,41)
 else readGatesB s (((headF s).2.1.getD 1 0).toNat + ((headF s).2.1.getD 2 0).toNat) ((headF s).2.1.getD 4 0).toNat (formB s ((headF s).2.1.getD 0 0).toNat ((headF s).2.1.getD 1 0).toNat ((headF s).2.1.getD 2 0).toNat ((headF s).2.1.getD 3 0).toNat ((headF s).2.1.getD 5 0).toNat ((headF s).2.1.getD 6 0).toNat ((headF s).2.1.getD 7 0).toNat ((headF s).2.1.getD 8 0).toNat (headF s).2.2.1.toNat)
theorem form_chain {s : ByteArray} {m0 m1 m2 m3 m5 m6 m7 m8 p : Nat} {l2 : List S108} {l3 l4 l5 l7 : List Int} {l6 : List (List Int)} {r2 : Except Nat (List S108 × Nat)} {r3 r4 r5 r7 : Except Nat (List Int × Nat)} {r6 : Except Nat (List (List Int) × Nat)}
  (e2 : step (.ok p) (latchesB s m1 m2) = r2) (h2 : ∀ l q,r2 = .ok (l,q) → l2 = l)
  (e3 : step (placeOf r2) (listB s m3) = r3) (h3 : ∀ l q,r3 = .ok (l,q) → l3 = l)
  (e4 : step (placeOf r3) (listB s m5) = r4) (h4 : ∀ l q,r4 = .ok (l,q) → l4 = l)
  (e5 : step (placeOf r4) (listB s m6) = r5) (h5 : ∀ l q,r5 = .ok (l,q) → l5 = l)
  (e6 : step (placeOf r5) (justAllB s m7) = r6) (h6 : ∀ l q,r6 = .ok (l,q) → l6 = l)
  (e7 : step (placeOf r6) (listB s m8) = r7) (h7 : ∀ l q,r7 = .ok (l,q) → l7 = l) :
  formB s m0 m1 m2 m3 m5 m6 m7 m8 p = match placeOf r7 with
   |.error x => .error x
   |.ok q => .ok (⟨(m0 : Int),inputsB m1,l2,l3,l4,l5,l6,l7,[],[],[]⟩,q):=by
 unfold formB
 simp only [step] at e2
 rw [e2]
 cases r2 with
 |error x =>
  simp only [placeOf,step] at e3;subst e3;simp only [placeOf,step] at e4;subst e4;simp only [placeOf,step] at e5;subst e5;simp only [placeOf,step] at e6;subst e6;simp only [placeOf,step] at e7;subst e7
  rfl
 |ok y =>
  obtain ⟨y2,q2⟩:=y
  have:=h2 _ _ rfl
  subst this
  simp only [placeOf,step] at e3
  dsimp only
  rw [e3]
  cases r3 with
  |error x =>
   simp only [placeOf,step] at e4;subst e4;simp only [placeOf,step] at e5;subst e5;simp only [placeOf,step] at e6;subst e6;simp only [placeOf,step] at e7;subst e7
   rfl
  |ok y =>
   obtain ⟨y3,q3⟩:=y
   have:=h3 _ _ rfl
   subst this
   simp only [placeOf,step] at e4
   dsimp only
   rw [e4]
   cases r4 with
   |error x =>
    simp only [placeOf,step] at e5;subst e5;simp only [placeOf,step] at e6;subst e6;simp only [placeOf,step] at e7;subst e7
    rfl
   |ok y =>
    obtain ⟨y4,q4⟩:=y
    have:=h4 _ _ rfl
    subst this
    simp only [placeOf,step] at e5
    dsimp only
    rw [e5]
    cases r5 with
    |error x =>
     simp only [placeOf,step] at e6;subst e6;simp only [placeOf,step] at e7;subst e7
     rfl
    |ok y =>
     obtain ⟨y5,q5⟩:=y
     have:=h5 _ _ rfl
     subst this
     simp only [placeOf,step] at e6
     dsimp only
     rw [e6]
     cases r6 with
     |error x =>
      simp only [placeOf,step] at e7;subst e7
      rfl
     |ok y =>
      obtain ⟨y6,q6⟩:=y
      have:=h6 _ _ rfl
      subst this
      simp only [placeOf,step] at e7
      dsimp only
      rw [e7]
      cases r7 with
      |error x => rfl
      |ok y =>
       obtain ⟨y7,q7⟩:=y
       have:=h7 _ _ rfl
       subst this
       rfl
theorem listB_len {s : ByteArray} : ∀ (n p : Nat) {l : List Int} {q : Nat},listB s n p = .ok (l,q) → l.length = n
 |0,p,l,q,h => by
  rw [listB] at h
  injection h with h
  injection h with h1 h2
  subst h1
  rfl
 |n + 1,p,l,q,h => by
  rw [listB] at h
  split at h
  ·cases h
  ·rename_i x q1 hr
   split at h
   ·cases h
   ·rename_i l2 r hl
    injection h with h
    injection h with h1 h2
    subst h1
    simp [listB_len n q1 hl]
theorem sizesB_le {s : ByteArray} : ∀ (n p : Nat) {l : List Int} {q : Nat},sizesB s n p = .ok (l,q) → ∀ y ∈ l,y ≤ 16384
 |0,p,l,q,h => by
  rw [sizesB] at h
  injection h with h
  injection h with h1 h2
  subst h1
  intro y hy
  cases hy
 |n + 1,p,l,q,h => by
  rw [sizesB] at h
  split at h
  ·cases h
  ·rename_i x q1 hr
   split at h
   ·cases h
   ·rename_i hx
    split at h
    ·cases h
    ·rename_i l2 r hl
     injection h with h
     injection h with h1 h2
     subst h1
     intro y hy
     rcases List.mem_cons.1 hy with rfl|hy
     ·omega
     ·exact sizesB_le n q1 hl y hy
theorem justB_len {s : ByteArray} : ∀ (z : List Int) (p : Nat) {l : List (List Int)} {q : Nat},(∀ y ∈ z,y ≤ 16384) → justB s z p = .ok (l,q) → ∀ r ∈ l,r.length ≤ 16384
 |[],p,l,q,hz,h => by
  rw [justB] at h
  injection h with h
  injection h with h1 h2
  subst h1
  intro r hr
  cases hr
 |k :: ks,p,l,q,hz,h => by
  rw [justB] at h
  split at h
  ·cases h
  ·rename_i x q1 hr
   split at h
   ·cases h
   ·rename_i l2 r2 hl
    injection h with h
    injection h with h1 h2
    subst h1
    intro r hr'
    rcases List.mem_cons.1 hr' with rfl|hr'
    ·rw [listB_len _ _ hr]
     have:=hz k List.mem_cons_self
     omega
    ·exact justB_len ks q1 (fun y hy => hz y (List.mem_cons_of_mem _ hy)) hl r hr'
theorem justAllB_len {s : ByteArray} {n p : Nat} {l : List (List Int)} {q : Nat} (h : justAllB s n p = .ok (l,q)) : ∀ r ∈ l,r.length ≤ 16384:=by
 unfold justAllB at h
 split at h
 ·cases h
 ·rename_i z q1 hz
  exact justB_len z q1 (sizesB_le n p hz) h
theorem KR.rowsT {α : Type} {d : Kd α} {e base R t : Nat} {W V : World} {v : Value} {xs : List α} {cs : Array Value} (k : KR W V R) (hb : W.heap[R]? = some (.cells cs t (0,0))) (ht : ∀ q,q ∈ e :: d.E → q ≠ t) (hr : d.R e W base (fun _ => True) v xs) : d.R e V base (fun _ => True) v xs :=
 Kd.R_mono (Kd.R_step (Kd.R_types hr hb ht) (fun j hj hlt => k.kb.2 j hlt hj.2)) (fun _ _ => trivial)
theorem sub47s : ∀ q,q ∈ [3,61,22,75,77,9] → q ≠ 47:=by decide
theorem CRows.krT {W V : World} {base R : Nat} {x : S65} {v : VS} {cs : Array Value} (h : CRows W base x v) (k : KR W V R) (hb : W.heap[R]? = some (.cells cs 47 (0,0))) : CRows V base x v :=
 ⟨KR.rowsT k hb (fun q hq => sub47s q (sub3 q hq)) h.r1,KR.rowsT k hb (fun q hq => sub47s q (sub108 q hq)) h.r2,KR.rowsT k hb (fun q hq => sub47s q (sub3 q hq)) h.r3,KR.rowsT k hb (fun q hq => sub47s q (sub3 q hq)) h.r4,KR.rowsT k hb (fun q hq => sub47s q (sub3 q hq)) h.r5,KR.rowsT k hb (fun q hq => sub47s q (sub47 q hq)) h.r6,KR.rowsT k hb (fun q hq => sub47s q (sub3 q hq)) h.r7,KR.rowsT k hb (fun q hq => sub47s q (sub125 q hq)) h.r8,KR.rowsT k hb (fun q hq => sub47s q (sub59 q hq)) h.r9,KR.rowsT k hb (fun q hq => sub47s q (sub9 q hq)) h.r10⟩
structure BR (w W : World) (g n1 gT cb R : Nat) (ms : List Int) (s : ByteArray) (st : Except Nat Nat) (x : S65) (v : VS) : Prop where
 rs : RdS w W x0S nilVS 0 0
 nr : Kd.R (Kd.int .i64) 3 W w.heap.size (fun _ => True) (.slice (some ⟨g,0,none⟩) 9 n1) ms
 tb : W.heap[gT]? = some (.cells #[.int .i64 0,.int .i64 0] 32 (0,0))
 blk : W.heap[cb]? = some (.cells (cellsV x.f0 v) 29 (0,0))
 ss : SS W R s st
 rows : CRows W w.heap.size x v
 o1 : w.heap.size + 1 < gT
 o2 : gT < cb
 o3 : cb < R
theorem RdS.krT {w W V : World} {R : Nat} {fa fc : Int} (h : RdS w W x0S nilVS fa fc) (k : KR W V R) (hR : w.heap.size + 1 < R) : RdS w V x0S nilVS fa fc:=h.kr0 k hR
theorem BR.kr {w W V : World} {g n1 gT cb R : Nat} {ms : List Int} {s : ByteArray} {st st' : Except Nat Nat} {x : S65} {v : VS} (h : BR w W g n1 gT cb R ms s st x v) (k : KR W V R) (hs : SS V R s st') : BR w V g n1 gT cb R ms s st' x v:=by
 have h1:=h.o1;have h2:=h.o2;have h3:=h.o3
 obtain ⟨cs,hb⟩:=h.ss.blk
 exact ⟨h.rs.krT k (by omega),KR.rowsT k hb (by decide) h.nr,(k.kb.2 _ (blk_lt h.tb) (by omega)).trans h.tb,(k.kb.2 _ (blk_lt h.blk) (by omega)).trans h.blk,hs,h.rows.krT k hb,h1,h2,h3⟩
theorem BR.below {w W V : World} {g n1 gT cb R : Nat} {ms : List Int} {s : ByteArray} {st : Except Nat Nat} {x : S65} {v : VS} (h : BR w W g n1 gT cb R ms s st x v) (hb : Below W.heap.size W V) : BR w V g n1 gT cb R ms s st x v :=
 ⟨h.rs.below hb,Kd.R_below h.nr hb,keep_below h.tb hb,keep_below h.blk hb,h.ss.keep (hb.block R h.ss.lt),h.rows.below hb,h.o1,h.o2,h.o3⟩
theorem BR.cell {w W : World} {g n1 gT cb R : Nat} {ms : List Int} {s : ByteArray} {st : Except Nat Nat} {x : S65} {v : VS} (h : BR w W g n1 gT cb R ms s st x v) (hl : ms.length = 9) (i : Nat) (hi : i < 9) : W.cell? ⟨g,i,none⟩ = some (.int .i64 (ms.getD i 0)):=by
 obtain ⟨g',cp,he,_,hc⟩:=row_some h.nr (by omega)
 injection he with he1 he2 he3
 injection he1 with he1
 injection he1 with he1
 subst he1
 exact hc i (by omega)
theorem RdS.other {w W : World} {x : S65} {v : VS} {fa fc : Int} {b t j : Nat} {u : Value} {cs : Array Value} (h : RdS w W x v fa fc) (hb : W.heap[b]? = some (.cells cs t (0,0))) (hr : CRows (W.setCell ⟨b,j,none⟩ u) w.heap.size x v) (hlt : w.heap.size + 1 < b) : RdS w (W.setCell ⟨b,j,none⟩ u) x v fa fc :=
 ⟨blk_far h.C (p:=⟨b,j,none⟩) (by show w.heap.size ≠ b;omega) _,blk_far h.F (p:=⟨b,j,none⟩) (by show w.heap.size + 1 ≠ b;omega) _,hr,h.be.setCell (p:=⟨b,j,none⟩) (by show w.heap.size ≤ b;omega) _⟩
theorem BR.put2 {w W : World} {g n1 gT cb R : Nat} {ms : List Int} {s : ByteArray} {st : Except Nat Nat} {x : S65} {v : VS} {u : Value} {l : List S108} (h : BR w W g n1 gT cb R ms s st x v) (hr : Kd.R k108 61 W w.heap.size (fun _ => True) u l) : BR w (W.setCell ⟨cb,2,none⟩ u) g n1 gT cb R ms s st { x with f2:=l } { v with v2:=u }:=by
 have h1:=h.o1;have h2:=h.o2;have h3:=h.o3
 have hS:=h.rows.set h.blk sub65 2 u
 exact ⟨h.rs.other h.blk (rows_nil _ _) (by omega),Kd.R_set h.nr h.blk (by decide) 2 u,blk_far h.tb (p:=⟨cb,2,none⟩) (by show gT ≠ cb;omega) _,blk_set h.blk 2 u,h.ss.keep (Below.heap_setCell W ⟨cb,2,none⟩ u R (by show R ≠ cb;omega)),⟨hS.r1,Kd.R_set hr h.blk (fun q hq => sub65 q (sub108 q hq)) 2 u,hS.r3,hS.r4,hS.r5,hS.r6,hS.r7,hS.r8,hS.r9,hS.r10⟩,h1,h2,h3⟩
theorem BR.put3 {w W : World} {g n1 gT cb R : Nat} {ms : List Int} {s : ByteArray} {st : Except Nat Nat} {x : S65} {v : VS} {u : Value} {l : List Int} (h : BR w W g n1 gT cb R ms s st x v) (hr : Kd.R (Kd.int .i64) 3 W w.heap.size (fun _ => True) u l) : BR w (W.setCell ⟨cb,3,none⟩ u) g n1 gT cb R ms s st { x with f3:=l } { v with v3:=u }:=by
 have h1:=h.o1;have h2:=h.o2;have h3:=h.o3
 have hS:=h.rows.set h.blk sub65 3 u
 exact ⟨h.rs.other h.blk (rows_nil _ _) (by omega),Kd.R_set h.nr h.blk (by decide) 3 u,blk_far h.tb (p:=⟨cb,3,none⟩) (by show gT ≠ cb;omega) _,blk_set h.blk 3 u,h.ss.keep (Below.heap_setCell W ⟨cb,3,none⟩ u R (by show R ≠ cb;omega)),⟨hS.r1,hS.r2,Kd.R_set hr h.blk (fun q hq => sub65 q (sub3 q hq)) 3 u,hS.r4,hS.r5,hS.r6,hS.r7,hS.r8,hS.r9,hS.r10⟩,h1,h2,h3⟩
theorem BR.put4 {w W : World} {g n1 gT cb R : Nat} {ms : List Int} {s : ByteArray} {st : Except Nat Nat} {x : S65} {v : VS} {u : Value} {l : List Int} (h : BR w W g n1 gT cb R ms s st x v) (hr : Kd.R (Kd.int .i64) 3 W w.heap.size (fun _ => True) u l) : BR w (W.setCell ⟨cb,4,none⟩ u) g n1 gT cb R ms s st { x with f4:=l } { v with v4:=u }:=by
 have h1:=h.o1;have h2:=h.o2;have h3:=h.o3
 have hS:=h.rows.set h.blk sub65 4 u
 exact ⟨h.rs.other h.blk (rows_nil _ _) (by omega),Kd.R_set h.nr h.blk (by decide) 4 u,blk_far h.tb (p:=⟨cb,4,none⟩) (by show gT ≠ cb;omega) _,blk_set h.blk 4 u,h.ss.keep (Below.heap_setCell W ⟨cb,4,none⟩ u R (by show R ≠ cb;omega)),⟨hS.r1,hS.r2,hS.r3,Kd.R_set hr h.blk (fun q hq => sub65 q (sub3 q hq)) 4 u,hS.r5,hS.r6,hS.r7,hS.r8,hS.r9,hS.r10⟩,h1,h2,h3⟩
theorem BR.put5 {w W : World} {g n1 gT cb R : Nat} {ms : List Int} {s : ByteArray} {st : Except Nat Nat} {x : S65} {v : VS} {u : Value} {l : List Int} (h : BR w W g n1 gT cb R ms s st x v) (hr : Kd.R (Kd.int .i64) 3 W w.heap.size (fun _ => True) u l) : BR w (W.setCell ⟨cb,5,none⟩ u) g n1 gT cb R ms s st { x with f5:=l } { v with v5:=u }:=by
 have h1:=h.o1;have h2:=h.o2;have h3:=h.o3
 have hS:=h.rows.set h.blk sub65 5 u
 exact ⟨h.rs.other h.blk (rows_nil _ _) (by omega),Kd.R_set h.nr h.blk (by decide) 5 u,blk_far h.tb (p:=⟨cb,5,none⟩) (by show gT ≠ cb;omega) _,blk_set h.blk 5 u,h.ss.keep (Below.heap_setCell W ⟨cb,5,none⟩ u R (by show R ≠ cb;omega)),⟨hS.r1,hS.r2,hS.r3,hS.r4,Kd.R_set hr h.blk (fun q hq => sub65 q (sub3 q hq)) 5 u,hS.r6,hS.r7,hS.r8,hS.r9,hS.r10⟩,h1,h2,h3⟩
theorem BR.put6 {w W : World} {g n1 gT cb R : Nat} {ms : List Int} {s : ByteArray} {st : Except Nat Nat} {x : S65} {v : VS} {u : Value} {l : List (List Int)} (h : BR w W g n1 gT cb R ms s st x v) (hr : Kd.R (Kd.slice 3 (Kd.int .i64)) 22 W w.heap.size (fun _ => True) u l) : BR w (W.setCell ⟨cb,6,none⟩ u) g n1 gT cb R ms s st { x with f6:=l } { v with v6:=u }:=by
 have h1:=h.o1;have h2:=h.o2;have h3:=h.o3
 have hS:=h.rows.set h.blk sub65 6 u
 exact ⟨h.rs.other h.blk (rows_nil _ _) (by omega),Kd.R_set h.nr h.blk (by decide) 6 u,blk_far h.tb (p:=⟨cb,6,none⟩) (by show gT ≠ cb;omega) _,blk_set h.blk 6 u,h.ss.keep (Below.heap_setCell W ⟨cb,6,none⟩ u R (by show R ≠ cb;omega)),⟨hS.r1,hS.r2,hS.r3,hS.r4,hS.r5,Kd.R_set hr h.blk (fun q hq => sub65 q (sub47 q hq)) 6 u,hS.r7,hS.r8,hS.r9,hS.r10⟩,h1,h2,h3⟩
theorem BR.put7 {w W : World} {g n1 gT cb R : Nat} {ms : List Int} {s : ByteArray} {st : Except Nat Nat} {x : S65} {v : VS} {u : Value} {l : List Int} (h : BR w W g n1 gT cb R ms s st x v) (hr : Kd.R (Kd.int .i64) 3 W w.heap.size (fun _ => True) u l) : BR w (W.setCell ⟨cb,7,none⟩ u) g n1 gT cb R ms s st { x with f7:=l } { v with v7:=u }:=by
 have h1:=h.o1;have h2:=h.o2;have h3:=h.o3
 have hS:=h.rows.set h.blk sub65 7 u
 exact ⟨h.rs.other h.blk (rows_nil _ _) (by omega),Kd.R_set h.nr h.blk (by decide) 7 u,blk_far h.tb (p:=⟨cb,7,none⟩) (by show gT ≠ cb;omega) _,blk_set h.blk 7 u,h.ss.keep (Below.heap_setCell W ⟨cb,7,none⟩ u R (by show R ≠ cb;omega)),⟨hS.r1,hS.r2,hS.r3,hS.r4,hS.r5,hS.r6,Kd.R_set hr h.blk (fun q hq => sub65 q (sub3 q hq)) 7 u,hS.r8,hS.r9,hS.r10⟩,h1,h2,h3⟩
theorem BR.put8 {w W : World} {g n1 gT cb R : Nat} {ms : List Int} {s : ByteArray} {st : Except Nat Nat} {x : S65} {v : VS} {u : Value} {l : List S125} (h : BR w W g n1 gT cb R ms s st x v) (hr : Kd.R k125 75 W w.heap.size (fun _ => True) u l) : BR w (W.setCell ⟨cb,8,none⟩ u) g n1 gT cb R ms s st { x with f8:=l } { v with v8:=u }:=by
 have h1:=h.o1;have h2:=h.o2;have h3:=h.o3
 have hS:=h.rows.set h.blk sub65 8 u
 exact ⟨h.rs.other h.blk (rows_nil _ _) (by omega),Kd.R_set h.nr h.blk (by decide) 8 u,blk_far h.tb (p:=⟨cb,8,none⟩) (by show gT ≠ cb;omega) _,blk_set h.blk 8 u,h.ss.keep (Below.heap_setCell W ⟨cb,8,none⟩ u R (by show R ≠ cb;omega)),⟨hS.r1,hS.r2,hS.r3,hS.r4,hS.r5,hS.r6,hS.r7,Kd.R_set hr h.blk (fun q hq => sub65 q (sub125 q hq)) 8 u,hS.r9,hS.r10⟩,h1,h2,h3⟩
theorem BR.put9 {w W : World} {g n1 gT cb R : Nat} {ms : List Int} {s : ByteArray} {st : Except Nat Nat} {x : S65} {v : VS} {u : Value} {l : List S59} (h : BR w W g n1 gT cb R ms s st x v) (hr : Kd.R k59 77 W w.heap.size (fun _ => True) u l) : BR w (W.setCell ⟨cb,9,none⟩ u) g n1 gT cb R ms s st { x with f9:=l } { v with v9:=u }:=by
 have h1:=h.o1;have h2:=h.o2;have h3:=h.o3
 have hS:=h.rows.set h.blk sub65 9 u
 exact ⟨h.rs.other h.blk (rows_nil _ _) (by omega),Kd.R_set h.nr h.blk (by decide) 9 u,blk_far h.tb (p:=⟨cb,9,none⟩) (by show gT ≠ cb;omega) _,blk_set h.blk 9 u,h.ss.keep (Below.heap_setCell W ⟨cb,9,none⟩ u R (by show R ≠ cb;omega)),⟨hS.r1,hS.r2,hS.r3,hS.r4,hS.r5,hS.r6,hS.r7,hS.r8,Kd.R_set hr h.blk (fun q hq => sub65 q (sub59 q hq)) 9 u,hS.r10⟩,h1,h2,h3⟩
theorem BR.put10 {w W : World} {g n1 gT cb R : Nat} {ms : List Int} {s : ByteArray} {st : Except Nat Nat} {x : S65} {v : VS} {u : Value} {l : List ByteArray} (h : BR w W g n1 gT cb R ms s st x v) (hr : Kd.R Kd.string 9 W w.heap.size (fun _ => True) u l) : BR w (W.setCell ⟨cb,10,none⟩ u) g n1 gT cb R ms s st { x with f10:=l } { v with v10:=u }:=by
 have h1:=h.o1;have h2:=h.o2;have h3:=h.o3
 have hS:=h.rows.set h.blk sub65 10 u
 exact ⟨h.rs.other h.blk (rows_nil _ _) (by omega),Kd.R_set h.nr h.blk (by decide) 10 u,blk_far h.tb (p:=⟨cb,10,none⟩) (by show gT ≠ cb;omega) _,blk_set h.blk 10 u,h.ss.keep (Below.heap_setCell W ⟨cb,10,none⟩ u R (by show R ≠ cb;omega)),⟨hS.r1,hS.r2,hS.r3,hS.r4,hS.r5,hS.r6,hS.r7,hS.r8,hS.r9,Kd.R_set hr h.blk (fun q hq => sub65 q (sub9 q hq)) 10 u⟩,h1,h2,h3⟩
theorem readB_results {w W : World} {x : S65} {v : VS} {fa fc : Int} {tm : Array Value} (h : RdS w W x v fa fc) (h2 : tm.getD 2 undef = .pointer (some ⟨w.heap.size,0,none⟩)) (h3 : tm.getD 3 undef = .pointer (some ⟨w.heap.size + 1,0,none⟩)) :
  bodyPost Tryz.prog Tryz.f7 (ReadEnd w (x,fa,fc)) .ret { tmps:=tm,defers:=[] } W :=
 bodyPost_ret (results_list (P:=Tryz.prog) (fn:=Tryz.f7) (tmps:=tm) (w:=W) (rs:=[.cell 2 29,.cell 3 32]) rfl (by simp) (.cell w.heap.size 29 _ (0,0) _ h2 h.C Tryz.underlying29 rfl info65s (.cell (w.heap.size + 1) 32 _ (0,0) _ h3 h.F Tryz.underlying32 rfl info32 .nil))) rfl ⟨v,rfl,h.rows,h.be⟩
end Go.Proofs.YtdmngdohlobogaaGreatDoor.Asc

