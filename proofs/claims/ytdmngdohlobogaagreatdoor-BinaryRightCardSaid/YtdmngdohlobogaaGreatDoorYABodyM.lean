import Derived.Test.YtdmngdohlobogaaGreatDoorYM7
import Derived.Test.YtdmngdohlobogaaGreatDoorYAHeadW
namespace Go.Proofs.YtdmngdohlobogaaGreatDoor.Asc
open Go Go.RowKit Go.Proofs.YtdmngdohlobogaaGreatDoorW.PrintWords Go.Proofs.YtdmngdohlobogaaGreatDoorW.PrintLast Go.Proofs.YtdmngdohlobogaaGreatDoorW.PrintMore
set_option linter.unusedVariables false
set_option linter.unusedSimpArgs false
structure VS where
 v1 : Value
 v2 : Value
 v3 : Value
 v4 : Value
 v5 : Value
 v6 : Value
 v7 : Value
 v8 : Value
 v9 : Value
 v10 : Value
def nilV : Value:=.slice none 0 0
def cellsV (x0 : Int) (v : VS) : Array Value:=#[.int .i64 x0,v.v1,v.v2,v.v3,v.v4,v.v5,v.v6,v.v7,v.v8,v.v9,v.v10]
structure CRows (W : World) (base : Nat) (x : S65) (v : VS) : Prop where
 r1 : Kd.R (Kd.int .i64) 3 W base (fun _ => True) v.v1 x.f1
 r2 : Kd.R k108 61 W base (fun _ => True) v.v2 x.f2
 r3 : Kd.R (Kd.int .i64) 3 W base (fun _ => True) v.v3 x.f3
 r4 : Kd.R (Kd.int .i64) 3 W base (fun _ => True) v.v4 x.f4
 r5 : Kd.R (Kd.int .i64) 3 W base (fun _ => True) v.v5 x.f5
 r6 : Kd.R (Kd.slice 3 (Kd.int .i64)) 22 W base (fun _ => True) v.v6 x.f6
 r7 : Kd.R (Kd.int .i64) 3 W base (fun _ => True) v.v7 x.f7
 r8 : Kd.R k125 75 W base (fun _ => True) v.v8 x.f8
 r9 : Kd.R k59 77 W base (fun _ => True) v.v9 x.f9
 r10 : Kd.R Kd.string 9 W base (fun _ => True) v.v10 x.f10
theorem KR.rows' {α : Type} {d : Kd α} {e : Nat} {w W : World} {R base : Nat} {v : Value} {xs : List α} (h : KR w W R) (hr : d.R e w base (fun _ => True) v xs) (hR : R < base) : d.R e W base (fun _ => True) v xs :=
 Kd.R_mono (Kd.R_step (Kd.R_bound hr) (fun k hk hlt => h.kb.2 k hlt (by have:=hk.2.1;omega))) (fun _ _ => trivial)
theorem CRows.kr {W V : World} {base R : Nat} {x : S65} {v : VS} (h : CRows W base x v) (k : KR W V R) (hR : R < base) : CRows V base x v :=
 ⟨KR.rows' k h.r1 hR,KR.rows' k h.r2 hR,KR.rows' k h.r3 hR,KR.rows' k h.r4 hR,KR.rows' k h.r5 hR,KR.rows' k h.r6 hR,KR.rows' k h.r7 hR,KR.rows' k h.r8 hR,KR.rows' k h.r9 hR,KR.rows' k h.r10 hR⟩
theorem CRows.below {W V : World} {base : Nat} {x : S65} {v : VS} (h : CRows W base x v) (k : Below W.heap.size W V) : CRows V base x v :=
 ⟨Kd.R_below h.r1 k,Kd.R_below h.r2 k,Kd.R_below h.r3 k,Kd.R_below h.r4 k,Kd.R_below h.r5 k,Kd.R_below h.r6 k,Kd.R_below h.r7 k,Kd.R_below h.r8 k,Kd.R_below h.r9 k,Kd.R_below h.r10 k⟩
theorem sub3 : ∀ q,q ∈ 3 :: Kd.E (Kd.int .i64) → q ∈ [3,61,22,75,77,9]:=by decide
theorem sub108 : ∀ q,q ∈ 61 :: Kd.E k108 → q ∈ [3,61,22,75,77,9]:=by decide
theorem sub47 : ∀ q,q ∈ 22 :: Kd.E (Kd.slice 3 (Kd.int .i64)) → q ∈ [3,61,22,75,77,9]:=by decide
theorem sub125 : ∀ q,q ∈ 75 :: Kd.E k125 → q ∈ [3,61,22,75,77,9]:=by decide
theorem sub59 : ∀ q,q ∈ 77 :: Kd.E k59 → q ∈ [3,61,22,75,77,9]:=by decide
theorem sub9 : ∀ q,q ∈ 9 :: Kd.E Kd.string → q ∈ [3,61,22,75,77,9]:=by decide
theorem CRows.set {W : World} {base b t : Nat} {cs : Array Value} {x : S65} {v : VS} (h : CRows W base x v) (hb : W.heap[b]? = some (.cells cs t (0,0))) (ht : ∀ q,q ∈ [3,61,22,75,77,9] → q ≠ t) (j : Nat) (u : Value) : CRows (W.setCell ⟨b,j,none⟩ u) base x v :=
 ⟨Kd.R_set h.r1 hb (fun q hq => ht q (by revert hq;exact sub3 q)) j u,Kd.R_set h.r2 hb (fun q hq => ht q (by revert hq;exact sub108 q)) j u,Kd.R_set h.r3 hb (fun q hq => ht q (by revert hq;exact sub3 q)) j u,Kd.R_set h.r4 hb (fun q hq => ht q (by revert hq;exact sub3 q)) j u,Kd.R_set h.r5 hb (fun q hq => ht q (by revert hq;exact sub3 q)) j u,Kd.R_set h.r6 hb (fun q hq => ht q (by revert hq;exact sub47 q)) j u,Kd.R_set h.r7 hb (fun q hq => ht q (by revert hq;exact sub3 q)) j u,Kd.R_set h.r8 hb (fun q hq => ht q (by revert hq;exact sub125 q)) j u,Kd.R_set h.r9 hb (fun q hq => ht q (by revert hq;exact sub59 q)) j u,Kd.R_set h.r10 hb (fun q hq => ht q (by revert hq;exact sub9 q)) j u⟩
def zero65 : Array Value:=#[.int .i64 0,.slice none 0 0,.slice none 0 0,.slice none 0 0,.slice none 0 0,.slice none 0 0,.slice none 0 0,.slice none 0 0,.slice none 0 0,.slice none 0 0,.slice none 0 0]
structure BS (w W : World) (R cb : Nat) (s : ByteArray) (pk : Nat) (x : S65) (v : VS) : Prop where
 blk : W.heap[cb]? = some (.cells (cellsV x.f0 v) 29 (0,0))
 res : W.heap[w.heap.size]? = some (.cells zero65 29 (0,0))
 rd : RD W R s pk
 kr : KR w W R
 cbl : w.heap.size < cb
 rl : R < w.heap.size
 rows : CRows W w.heap.size x v
theorem BS.kr_ {w W V : World} {R cb : Nat} {s : ByteArray} {pk q : Nat} {x : S65} {v : VS} (h : BS w W R cb s pk x v) (k : KR W V R) (hr : RD V R s q) : BS w V R cb s q x v:=by
 have:=h.cbl
 have:=h.rl
 exact ⟨(k.kb.2 _ (blk_lt h.blk) (by omega)).trans h.blk,(k.kb.2 _ (blk_lt h.res) (by omega)).trans h.res,hr,h.kr.trans k,h.cbl,h.rl,h.rows.kr k h.rl⟩
theorem BS.below {w W V : World} {R cb : Nat} {s : ByteArray} {pk : Nat} {x : S65} {v : VS} (h : BS w W R cb s pk x v) (k : Below W.heap.size W V) : BS w V R cb s pk x v :=
 h.kr_ (KR.below (Nat.le_of_lt h.rd.lt) k) (h.rd.below k)
theorem KR.setCell {w W : World} {R b : Nat} (h : KR w W R) (hb : w.heap.size ≤ b) (hR : R ≤ b) (j : Nat) (u : Value) : KR w (W.setCell ⟨b,j,none⟩ u) R :=
 ⟨⟨by rw [World.size_setCell];exact h.kb.1,fun k hk hne => (Below.heap_setCell W ⟨b,j,none⟩ u k (by show k ≠ b;omega)).trans (h.kb.2 k hk hne)⟩,h.be.setCell (p:=⟨b,j,none⟩) hR _⟩
theorem sub65 : ∀ q,q ∈ [3,61,22,75,77,9] → q ≠ 29:=by decide
theorem BS.put2 {w W : World} {R cb : Nat} {s : ByteArray} {pk : Nat} {x : S65} {v : VS} {u : Value} {l : List S108} (h : BS w W R cb s pk x v) (hr : Kd.R k108 61 W w.heap.size (fun _ => True) u l) : BS w (W.setCell ⟨cb,2,none⟩ u) R cb s pk { x with f2:=l } { v with v2:=u }:=by
 have h1:=h.cbl
 have h2:=h.rl
 have hS:=h.rows.set h.blk sub65 2 u
 exact ⟨blk_set h.blk 2 u,blk_far h.res (p:=⟨cb,2,none⟩) (by show w.heap.size ≠ cb;omega) _,blk_far h.rd (p:=⟨cb,2,none⟩) (by show R ≠ cb;omega) _,h.kr.setCell (by omega) (by omega) 2 u,h.cbl,h.rl,⟨hS.r1,Kd.R_set hr h.blk (fun q hq => sub65 q (sub108 q hq)) 2 u,hS.r3,hS.r4,hS.r5,hS.r6,hS.r7,hS.r8,hS.r9,hS.r10⟩⟩
theorem BS.put3 {w W : World} {R cb : Nat} {s : ByteArray} {pk : Nat} {x : S65} {v : VS} {u : Value} {l : List Int} (h : BS w W R cb s pk x v) (hr : Kd.R (Kd.int .i64) 3 W w.heap.size (fun _ => True) u l) : BS w (W.setCell ⟨cb,3,none⟩ u) R cb s pk { x with f3:=l } { v with v3:=u }:=by
 have h1:=h.cbl
 have h2:=h.rl
 have hS:=h.rows.set h.blk sub65 3 u
 exact ⟨blk_set h.blk 3 u,blk_far h.res (p:=⟨cb,3,none⟩) (by show w.heap.size ≠ cb;omega) _,blk_far h.rd (p:=⟨cb,3,none⟩) (by show R ≠ cb;omega) _,h.kr.setCell (by omega) (by omega) 3 u,h.cbl,h.rl,⟨hS.r1,hS.r2,Kd.R_set hr h.blk (fun q hq => sub65 q (sub3 q hq)) 3 u,hS.r4,hS.r5,hS.r6,hS.r7,hS.r8,hS.r9,hS.r10⟩⟩
theorem BS.put4 {w W : World} {R cb : Nat} {s : ByteArray} {pk : Nat} {x : S65} {v : VS} {u : Value} {l : List Int} (h : BS w W R cb s pk x v) (hr : Kd.R (Kd.int .i64) 3 W w.heap.size (fun _ => True) u l) : BS w (W.setCell ⟨cb,4,none⟩ u) R cb s pk { x with f4:=l } { v with v4:=u }:=by
 have h1:=h.cbl
 have h2:=h.rl
 have hS:=h.rows.set h.blk sub65 4 u
 exact ⟨blk_set h.blk 4 u,blk_far h.res (p:=⟨cb,4,none⟩) (by show w.heap.size ≠ cb;omega) _,blk_far h.rd (p:=⟨cb,4,none⟩) (by show R ≠ cb;omega) _,h.kr.setCell (by omega) (by omega) 4 u,h.cbl,h.rl,⟨hS.r1,hS.r2,hS.r3,Kd.R_set hr h.blk (fun q hq => sub65 q (sub3 q hq)) 4 u,hS.r5,hS.r6,hS.r7,hS.r8,hS.r9,hS.r10⟩⟩
theorem BS.put5 {w W : World} {R cb : Nat} {s : ByteArray} {pk : Nat} {x : S65} {v : VS} {u : Value} {l : List Int} (h : BS w W R cb s pk x v) (hr : Kd.R (Kd.int .i64) 3 W w.heap.size (fun _ => True) u l) : BS w (W.setCell ⟨cb,5,none⟩ u) R cb s pk { x with f5:=l } { v with v5:=u }:=by
 have h1:=h.cbl
 have h2:=h.rl
 have hS:=h.rows.set h.blk sub65 5 u
 exact ⟨blk_set h.blk 5 u,blk_far h.res (p:=⟨cb,5,none⟩) (by show w.heap.size ≠ cb;omega) _,blk_far h.rd (p:=⟨cb,5,none⟩) (by show R ≠ cb;omega) _,h.kr.setCell (by omega) (by omega) 5 u,h.cbl,h.rl,⟨hS.r1,hS.r2,hS.r3,hS.r4,Kd.R_set hr h.blk (fun q hq => sub65 q (sub3 q hq)) 5 u,hS.r6,hS.r7,hS.r8,hS.r9,hS.r10⟩⟩
theorem BS.put6 {w W : World} {R cb : Nat} {s : ByteArray} {pk : Nat} {x : S65} {v : VS} {u : Value} {l : List (List Int)} (h : BS w W R cb s pk x v) (hr : Kd.R (Kd.slice 3 (Kd.int .i64)) 22 W w.heap.size (fun _ => True) u l) : BS w (W.setCell ⟨cb,6,none⟩ u) R cb s pk { x with f6:=l } { v with v6:=u }:=by
 have h1:=h.cbl
 have h2:=h.rl
 have hS:=h.rows.set h.blk sub65 6 u
 exact ⟨blk_set h.blk 6 u,blk_far h.res (p:=⟨cb,6,none⟩) (by show w.heap.size ≠ cb;omega) _,blk_far h.rd (p:=⟨cb,6,none⟩) (by show R ≠ cb;omega) _,h.kr.setCell (by omega) (by omega) 6 u,h.cbl,h.rl,⟨hS.r1,hS.r2,hS.r3,hS.r4,hS.r5,Kd.R_set hr h.blk (fun q hq => sub65 q (sub47 q hq)) 6 u,hS.r7,hS.r8,hS.r9,hS.r10⟩⟩
theorem BS.put7 {w W : World} {R cb : Nat} {s : ByteArray} {pk : Nat} {x : S65} {v : VS} {u : Value} {l : List Int} (h : BS w W R cb s pk x v) (hr : Kd.R (Kd.int .i64) 3 W w.heap.size (fun _ => True) u l) : BS w (W.setCell ⟨cb,7,none⟩ u) R cb s pk { x with f7:=l } { v with v7:=u }:=by
 have h1:=h.cbl
 have h2:=h.rl
 have hS:=h.rows.set h.blk sub65 7 u
 exact ⟨blk_set h.blk 7 u,blk_far h.res (p:=⟨cb,7,none⟩) (by show w.heap.size ≠ cb;omega) _,blk_far h.rd (p:=⟨cb,7,none⟩) (by show R ≠ cb;omega) _,h.kr.setCell (by omega) (by omega) 7 u,h.cbl,h.rl,⟨hS.r1,hS.r2,hS.r3,hS.r4,hS.r5,hS.r6,Kd.R_set hr h.blk (fun q hq => sub65 q (sub3 q hq)) 7 u,hS.r8,hS.r9,hS.r10⟩⟩
theorem BS.put8 {w W : World} {R cb : Nat} {s : ByteArray} {pk : Nat} {x : S65} {v : VS} {u : Value} {l : List S125} (h : BS w W R cb s pk x v) (hr : Kd.R k125 75 W w.heap.size (fun _ => True) u l) : BS w (W.setCell ⟨cb,8,none⟩ u) R cb s pk { x with f8:=l } { v with v8:=u }:=by
 have h1:=h.cbl
 have h2:=h.rl
 have hS:=h.rows.set h.blk sub65 8 u
 exact ⟨blk_set h.blk 8 u,blk_far h.res (p:=⟨cb,8,none⟩) (by show w.heap.size ≠ cb;omega) _,blk_far h.rd (p:=⟨cb,8,none⟩) (by show R ≠ cb;omega) _,h.kr.setCell (by omega) (by omega) 8 u,h.cbl,h.rl,⟨hS.r1,hS.r2,hS.r3,hS.r4,hS.r5,hS.r6,hS.r7,Kd.R_set hr h.blk (fun q hq => sub65 q (sub125 q hq)) 8 u,hS.r9,hS.r10⟩⟩
theorem BS.put9 {w W : World} {R cb : Nat} {s : ByteArray} {pk : Nat} {x : S65} {v : VS} {u : Value} {l : List S59} (h : BS w W R cb s pk x v) (hr : Kd.R k59 77 W w.heap.size (fun _ => True) u l) : BS w (W.setCell ⟨cb,9,none⟩ u) R cb s pk { x with f9:=l } { v with v9:=u }:=by
 have h1:=h.cbl
 have h2:=h.rl
 have hS:=h.rows.set h.blk sub65 9 u
 exact ⟨blk_set h.blk 9 u,blk_far h.res (p:=⟨cb,9,none⟩) (by show w.heap.size ≠ cb;omega) _,blk_far h.rd (p:=⟨cb,9,none⟩) (by show R ≠ cb;omega) _,h.kr.setCell (by omega) (by omega) 9 u,h.cbl,h.rl,⟨hS.r1,hS.r2,hS.r3,hS.r4,hS.r5,hS.r6,hS.r7,hS.r8,Kd.R_set hr h.blk (fun q hq => sub65 q (sub59 q hq)) 9 u,hS.r10⟩⟩
theorem BS.put10 {w W : World} {R cb : Nat} {s : ByteArray} {pk : Nat} {x : S65} {v : VS} {u : Value} {l : List ByteArray} (h : BS w W R cb s pk x v) (hr : Kd.R Kd.string 9 W w.heap.size (fun _ => True) u l) : BS w (W.setCell ⟨cb,10,none⟩ u) R cb s pk { x with f10:=l } { v with v10:=u }:=by
 have h1:=h.cbl
 have h2:=h.rl
 have hS:=h.rows.set h.blk sub65 10 u
 exact ⟨blk_set h.blk 10 u,blk_far h.res (p:=⟨cb,10,none⟩) (by show w.heap.size ≠ cb;omega) _,blk_far h.rd (p:=⟨cb,10,none⟩) (by show R ≠ cb;omega) _,h.kr.setCell (by omega) (by omega) 10 u,h.cbl,h.rl,⟨hS.r1,hS.r2,hS.r3,hS.r4,hS.r5,hS.r6,hS.r7,hS.r8,hS.r9,Kd.R_set hr h.blk (fun q hq => sub65 q (sub9 q hq)) 10 u⟩⟩
def x0S : S65:=⟨0,[],[],[],[],[],[],[],[],[],[]⟩
def v0S : VS:=⟨nilV,nilV,nilV,nilV,nilV,nilV,nilV,nilV,nilV,nilV⟩
theorem BS.begin {w V : World} {R cb : Nat} {s : ByteArray} {q : Nat} (hb : V.heap[cb]? = some (.cells zero65 29 (0,0))) (hres : V.heap[w.heap.size]? = some (.cells zero65 29 (0,0))) (hrd : RD V R s q) (hkr : KR w V R) (hcb : w.heap.size < cb) (hrl : R < w.heap.size) : BS w V R cb s q x0S v0S :=
 ⟨hb,hres,hrd,hkr,hcb,hrl,⟨Kd.R_nil _ _ _ _ _,Kd.R_nil _ _ _ _ _,Kd.R_nil _ _ _ _ _,Kd.R_nil _ _ _ _ _,Kd.R_nil _ _ _ _ _,Kd.R_nil _ _ _ _ _,Kd.R_nil _ _ _ _ _,Kd.R_nil _ _ _ _ _,Kd.R_nil _ _ _ _ _,Kd.R_nil _ _ _ _ _⟩⟩
theorem CRows.set11 {W : World} {base b : Nat} {cs : Array Value} {x : S65} {v : VS} (h : CRows W base x v) (hb : W.heap[b]? = some (.cells cs 29 (0,0))) (a0 a1 a2 a3 a4 a5 a6 a7 a8 a9 a10 : Value) : CRows ((((((((((((W).setCell ⟨b,0,none⟩ a0).setCell ⟨b,1,none⟩ a1).setCell ⟨b,2,none⟩ a2).setCell ⟨b,3,none⟩ a3).setCell ⟨b,4,none⟩ a4).setCell ⟨b,5,none⟩ a5).setCell ⟨b,6,none⟩ a6).setCell ⟨b,7,none⟩ a7).setCell ⟨b,8,none⟩ a8).setCell ⟨b,9,none⟩ a9).setCell ⟨b,10,none⟩ a10) base x v:=by
 have h1:=h.set hb sub65 0 a0
 have b0:=blk_set hb 0 a0
 have h2:=h1.set b0 sub65 1 a1
 have b1:=blk_set b0 1 a1
 have h3:=h2.set b1 sub65 2 a2
 have b2:=blk_set b1 2 a2
 have h4:=h3.set b2 sub65 3 a3
 have b3:=blk_set b2 3 a3
 have h5:=h4.set b3 sub65 4 a4
 have b4:=blk_set b3 4 a4
 have h6:=h5.set b4 sub65 5 a5
 have b5:=blk_set b4 5 a5
 have h7:=h6.set b5 sub65 6 a6
 have b6:=blk_set b5 6 a6
 have h8:=h7.set b6 sub65 7 a7
 have b7:=blk_set b6 7 a7
 have h9:=h8.set b7 sub65 8 a8
 have b8:=blk_set b7 8 a8
 have h10:=h9.set b8 sub65 9 a9
 have b9:=blk_set b8 9 a9
 have h11:=h10.set b9 sub65 10 a10
 have b10:=blk_set b9 10 a10
 exact h11
theorem BS.all_ {w W : World} {R cb : Nat} {s : ByteArray} {pk : Nat} {x x' : S65} {v v' : VS} (h : BS w W R cb s pk x v) (hr : CRows W w.heap.size x' v') : BS w ((((((((((((W).setCell ⟨cb,0,none⟩ (.int .i64 x'.f0)).setCell ⟨cb,1,none⟩ v'.v1).setCell ⟨cb,2,none⟩ v'.v2).setCell ⟨cb,3,none⟩ v'.v3).setCell ⟨cb,4,none⟩ v'.v4).setCell ⟨cb,5,none⟩ v'.v5).setCell ⟨cb,6,none⟩ v'.v6).setCell ⟨cb,7,none⟩ v'.v7).setCell ⟨cb,8,none⟩ v'.v8).setCell ⟨cb,9,none⟩ v'.v9).setCell ⟨cb,10,none⟩ v'.v10) R cb s pk x' v':=by
 have h1:=h.cbl
 have h2:=h.rl
 have e1 : w.heap.size ≠ cb:=by omega
 have e2 : R ≠ cb:=by omega
 refine ⟨?_,(blk_far (blk_far (blk_far (blk_far (blk_far (blk_far (blk_far (blk_far (blk_far (blk_far (blk_far h.res (p:=⟨cb,0,none⟩) e1 _) (p:=⟨cb,1,none⟩) e1 _) (p:=⟨cb,2,none⟩) e1 _) (p:=⟨cb,3,none⟩) e1 _) (p:=⟨cb,4,none⟩) e1 _) (p:=⟨cb,5,none⟩) e1 _) (p:=⟨cb,6,none⟩) e1 _) (p:=⟨cb,7,none⟩) e1 _) (p:=⟨cb,8,none⟩) e1 _) (p:=⟨cb,9,none⟩) e1 _) (p:=⟨cb,10,none⟩) e1 _),(blk_far (blk_far (blk_far (blk_far (blk_far (blk_far (blk_far (blk_far (blk_far (blk_far (blk_far h.rd (p:=⟨cb,0,none⟩) e2 _) (p:=⟨cb,1,none⟩) e2 _) (p:=⟨cb,2,none⟩) e2 _) (p:=⟨cb,3,none⟩) e2 _) (p:=⟨cb,4,none⟩) e2 _) (p:=⟨cb,5,none⟩) e2 _) (p:=⟨cb,6,none⟩) e2 _) (p:=⟨cb,7,none⟩) e2 _) (p:=⟨cb,8,none⟩) e2 _) (p:=⟨cb,9,none⟩) e2 _) (p:=⟨cb,10,none⟩) e2 _),(((((((((((h.kr.setCell (by omega) (by omega) 0 _).setCell (by omega) (by omega) 1 _).setCell (by omega) (by omega) 2 _).setCell (by omega) (by omega) 3 _).setCell (by omega) (by omega) 4 _).setCell (by omega) (by omega) 5 _).setCell (by omega) (by omega) 6 _).setCell (by omega) (by omega) 7 _).setCell (by omega) (by omega) 8 _).setCell (by omega) (by omega) 9 _).setCell (by omega) (by omega) 10 _),h.cbl,h.rl,hr.set11 h.blk _ _ _ _ _ _ _ _ _ _ _⟩
 have:=blk11 (show W.heap[cb]? = some (.cells #[.int .i64 x.f0,v.v1,v.v2,v.v3,v.v4,v.v5,v.v6,v.v7,v.v8,v.v9,v.v10] 29 (0,0)) from h.blk) (.int .i64 x'.f0) v'.v1 v'.v2 v'.v3 v'.v4 v'.v5 v'.v6 v'.v7 v'.v8 v'.v9 v'.v10
 exact this
def bA (m0 : Nat) (i : List Int) (l : List S108) (o b c : List Int) (j : List (List Int)) (f : List Int) : Except Nat (List S125 × Nat) → Except Nat (S65 × Nat)
 |.error e => .error e
 |.ok (a,p) => .ok (⟨m0,i,l,o,b,c,j,f,a,[],[]⟩,p)
def bF (s : ByteArray) (m0 m4 : Nat) (i : List Int) (l : List S108) (o b c : List Int) (j : List (List Int)) : Except Nat (List Int × Nat) → Except Nat (S65 × Nat)
 |.error e => .error e
 |.ok (f,p) => bA m0 i l o b c j f (andsF s m4 p)
def bJ (s : ByteArray) (m0 m4 m8 : Nat) (i : List Int) (l : List S108) (o b c : List Int) : Except Nat (List (List Int) × Nat) → Except Nat (S65 × Nat)
 |.error e => .error e
 |.ok (j,p) => bF s m0 m4 i l o b c j (listF s m8 p)
def bZ (s : ByteArray) (m0 m4 m8 : Nat) (i : List Int) (l : List S108) (o b c : List Int) : Except Nat (List Int × Nat) → Except Nat (S65 × Nat)
 |.error e => .error e
 |.ok (z,p) => bJ s m0 m4 m8 i l o b c (justF s z p)
def bC (s : ByteArray) (m0 m4 m7 m8 : Nat) (i : List Int) (l : List S108) (o b : List Int) : Except Nat (List Int × Nat) → Except Nat (S65 × Nat)
 |.error e => .error e
 |.ok (c,p) => bZ s m0 m4 m8 i l o b c (sizesF' s m7 p)
def bB (s : ByteArray) (m0 m4 m6 m7 m8 : Nat) (i : List Int) (l : List S108) (o : List Int) : Except Nat (List Int × Nat) → Except Nat (S65 × Nat)
 |.error e => .error e
 |.ok (b,p) => bC s m0 m4 m7 m8 i l o b (listF s m6 p)
def bO (s : ByteArray) (m0 m4 m5 m6 m7 m8 : Nat) (i : List Int) (l : List S108) : Except Nat (List Int × Nat) → Except Nat (S65 × Nat)
 |.error e => .error e
 |.ok (o,p) => bB s m0 m4 m6 m7 m8 i l o (listF s m5 p)
theorem R_lt {α : Type} {d : Kd α} {e : Nat} {w : World} {base : Nat} {ok : Nat → Prop} {v : Value} {xs : List α} (h : d.R e w base ok v xs) : ∀ k,v.ownBlock = some k → k < w.heap.size:=fun k hk => ((Kd.R_bound h).1 k hk).2.2.1
theorem info65s : (Tryz.prog.info? 29).map (·.size) = some 11:=by kernel_rfl
end Go.Proofs.YtdmngdohlobogaaGreatDoor.Asc

