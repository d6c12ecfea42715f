import Derived.Test.YtdmngdohlobogaaGreatDoorXM27
import Derived.Test.YtdmngdohlobogaaGreatDoorXM14
import Derived.Test.YtdmngdohlobogaaGreatDoorXSHCheck
namespace Go.Proofs.YtdmngdohlobogaaGreatDoor.Asc
open Go Go.RowKit Go.Proofs.YtdmngdohlobogaaGreatDoorW.PrintWords Go.Proofs.YtdmngdohlobogaaGreatDoorW.PrintLast Go.Proofs.YtdmngdohlobogaaGreatDoorW.PrintMore
set_option linter.unusedVariables false
set_option linter.unusedSimpArgs false
def ReadEnd (w : World) (r : S65 × Int × Int) (e : Ending) (w' : World) : Prop :=
 ∃ v : VS,e = .returned (.tuple #[.agg (cellsV r.1.f0 v),.agg #[.int .i64 r.2.1,.int .i64 r.2.2]]) ∧ CRows w' w.heap.size r.1 v ∧ Below w.heap.size w w'
def nilVS : VS:=⟨.slice none 0 0,.slice none 0 0,.slice none 0 0,.slice none 0 0,.slice none 0 0,.slice none 0 0,.slice none 0 0,.slice none 0 0,.slice none 0 0,.slice none 0 0⟩
theorem rows_nil (W : World) (base : Nat) : CRows W base x0S nilVS:=⟨Kd.R_nil _ _ _ _ _,Kd.R_nil _ _ _ _ _,Kd.R_nil _ _ _ _ _,Kd.R_nil _ _ _ _ _,Kd.R_nil _ _ _ _ _,Kd.R_nil _ _ _ _ _,Kd.R_nil _ _ _ _ _,Kd.R_nil _ _ _ _ _,Kd.R_nil _ _ _ _ _,Kd.R_nil _ _ _ _ _⟩
structure RdS (w W : World) (x : S65) (v : VS) (fa fc : Int) : Prop where
 C : W.heap[w.heap.size]? = some (.cells (cellsV x.f0 v) 29 (0,0))
 F : W.heap[w.heap.size + 1]? = some (.cells #[.int .i64 fa,.int .i64 fc] 32 (0,0))
 rows : CRows W w.heap.size x v
 be : Below w.heap.size w W
theorem RdS.below {w W V : World} {x : S65} {v : VS} {fa fc : Int} (h : RdS w W x v fa fc) (hb : Below W.heap.size W V) : RdS w V x v fa fc :=
 ⟨(hb.block _ (blk_lt h.C)).trans h.C,(hb.block _ (blk_lt h.F)).trans h.F,h.rows.below hb,h.be.trans (hb.mono h.be.size)⟩
theorem RdS.begin (w : World) : RdS w ((w.alloc (.cells #[.int .i64 0,.slice none 0 0,.slice none 0 0,.slice none 0 0,.slice none 0 0,.slice none 0 0,.slice none 0 0,.slice none 0 0,.slice none 0 0,.slice none 0 0,.slice none 0 0] 29)).alloc (.cells #[.int .i64 0,.int .i64 0] 32)) x0S nilVS 0 0:=by
 have hF:=blk_new (w.alloc (.cells #[.int .i64 0,.slice none 0 0,.slice none 0 0,.slice none 0 0,.slice none 0 0,.slice none 0 0,.slice none 0 0,.slice none 0 0,.slice none 0 0,.slice none 0 0,.slice none 0 0] 29)) (.cells #[.int .i64 0,.int .i64 0] 32)
 simp only [World.size_alloc] at hF
 exact ⟨bA_ (blk_new w _) _,hF,rows_nil _ _,eA_ (eA_ (Below.refl _ _) _) _⟩
theorem RdS.setF {w W : World} {x : S65} {v : VS} {fa fc : Int} (h : RdS w W x v fa fc) (a b : Int) : RdS w ((W.setCell ⟨w.heap.size + 1,0,none⟩ (.int .i64 a)).setCell ⟨w.heap.size + 1,1,none⟩ (.int .i64 b)) x v a b :=
 ⟨blk_far (blk_far h.C (p:=⟨w.heap.size + 1,0,none⟩) (by simp) _) (p:=⟨w.heap.size + 1,1,none⟩) (by simp) _,blk2 h.F _ _,(h.rows.set h.F (by decide) 0 _).set (blk_set h.F 0 _) (by decide) 1 _,(h.be.setCell (p:=⟨w.heap.size + 1,0,none⟩) (by simp) _).setCell (p:=⟨w.heap.size + 1,1,none⟩) (by simp) _⟩
theorem RdS.setC {w W : World} {x x' : S65} {v v' : VS} {fa fc : Int} (h : RdS w W x v fa fc) (hr : CRows W w.heap.size x' v') : RdS w ((((((((((((W).setCell ⟨w.heap.size,0,none⟩ (.int .i64 x'.f0)).setCell ⟨w.heap.size,1,none⟩ (v'.v1)).setCell ⟨w.heap.size,2,none⟩ (v'.v2)).setCell ⟨w.heap.size,3,none⟩ (v'.v3)).setCell ⟨w.heap.size,4,none⟩ (v'.v4)).setCell ⟨w.heap.size,5,none⟩ (v'.v5)).setCell ⟨w.heap.size,6,none⟩ (v'.v6)).setCell ⟨w.heap.size,7,none⟩ (v'.v7)).setCell ⟨w.heap.size,8,none⟩ (v'.v8)).setCell ⟨w.heap.size,9,none⟩ (v'.v9)).setCell ⟨w.heap.size,10,none⟩ (v'.v10)) x' v' fa fc:=by
 have hb:=blk11 (show W.heap[w.heap.size]? = some (.cells #[.int .i64 x.f0,v.v1,v.v2,v.v3,v.v4,v.v5,v.v6,v.v7,v.v8,v.v9,v.v10] 29 (0,0)) from h.C) (.int .i64 x'.f0) v'.v1 v'.v2 v'.v3 v'.v4 v'.v5 v'.v6 v'.v7 v'.v8 v'.v9 v'.v10
 exact ⟨hb,(blk_far (blk_far (blk_far (blk_far (blk_far (blk_far (blk_far (blk_far (blk_far (blk_far (blk_far h.F (p:=⟨w.heap.size,0,none⟩) (Nat.succ_ne_self _) _) (p:=⟨w.heap.size,1,none⟩) (Nat.succ_ne_self _) _) (p:=⟨w.heap.size,2,none⟩) (Nat.succ_ne_self _) _) (p:=⟨w.heap.size,3,none⟩) (Nat.succ_ne_self _) _) (p:=⟨w.heap.size,4,none⟩) (Nat.succ_ne_self _) _) (p:=⟨w.heap.size,5,none⟩) (Nat.succ_ne_self _) _) (p:=⟨w.heap.size,6,none⟩) (Nat.succ_ne_self _) _) (p:=⟨w.heap.size,7,none⟩) (Nat.succ_ne_self _) _) (p:=⟨w.heap.size,8,none⟩) (Nat.succ_ne_self _) _) (p:=⟨w.heap.size,9,none⟩) (Nat.succ_ne_self _) _) (p:=⟨w.heap.size,10,none⟩) (Nat.succ_ne_self _) _),hr.set11 h.C _ _ _ _ _ _ _ _ _ _ _,(((((((((((h.be.setCell (p:=⟨w.heap.size,0,none⟩) (Nat.le_refl _) _).setCell (p:=⟨w.heap.size,1,none⟩) (Nat.le_refl _) _).setCell (p:=⟨w.heap.size,2,none⟩) (Nat.le_refl _) _).setCell (p:=⟨w.heap.size,3,none⟩) (Nat.le_refl _) _).setCell (p:=⟨w.heap.size,4,none⟩) (Nat.le_refl _) _).setCell (p:=⟨w.heap.size,5,none⟩) (Nat.le_refl _) _).setCell (p:=⟨w.heap.size,6,none⟩) (Nat.le_refl _) _).setCell (p:=⟨w.heap.size,7,none⟩) (Nat.le_refl _) _).setCell (p:=⟨w.heap.size,8,none⟩) (Nat.le_refl _) _).setCell (p:=⟨w.heap.size,9,none⟩) (Nat.le_refl _) _).setCell (p:=⟨w.heap.size,10,none⟩) (Nat.le_refl _) _)⟩
theorem CRows.lower {W : World} {base b : Nat} {x : S65} {v : VS} (h : CRows W base x v) (hb : b ≤ base) : CRows W b x v :=
 ⟨Kd.R_lower h.r1 hb,Kd.R_lower h.r2 hb,Kd.R_lower h.r3 hb,Kd.R_lower h.r4 hb,Kd.R_lower h.r5 hb,Kd.R_lower h.r6 hb,Kd.R_lower h.r7 hb,Kd.R_lower h.r8 hb,Kd.R_lower h.r9 hb,Kd.R_lower h.r10 hb⟩
theorem RdS.kr0 {w W V : World} {R : Nat} {fa fc : Int} (h : RdS w W x0S nilVS fa fc) (k : KR W V R) (hR : w.heap.size + 1 < R) : RdS w V x0S nilVS fa fc :=
 ⟨(k.kb.2 _ (blk_lt h.C) (by omega)).trans h.C,(k.kb.2 _ (blk_lt h.F) (by omega)).trans h.F,rows_nil _ _,h.be.trans (k.be.mono (by omega))⟩
theorem RD.set11 {W : World} {R b q : Nat} {s : ByteArray} (h : RD W R s q) (hne : R ≠ b) (a0 a1 a2 a3 a4 a5 a6 a7 a8 a9 a10 : Value) : RD ((((((((((((W).setCell ⟨b,0,none⟩ a0).setCell ⟨b,1,none⟩ a1).setCell ⟨b,2,none⟩ a2).setCell ⟨b,3,none⟩ a3).setCell ⟨b,4,none⟩ a4).setCell ⟨b,5,none⟩ a5).setCell ⟨b,6,none⟩ a6).setCell ⟨b,7,none⟩ a7).setCell ⟨b,8,none⟩ a8).setCell ⟨b,9,none⟩ a9).setCell ⟨b,10,none⟩ a10) R s q:=far11 h hne _ _ _ _ _ _ _ _ _ _ _
theorem RdS.put910 {w W : World} {x : S65} {v : VS} {fa fc : Int} {u9 u10 : Value} {l9 : List S59} {l10 : List ByteArray} (h : RdS w W x v fa fc) (h9 : Kd.R k59 77 W w.heap.size (fun _ => True) u9 l9) (h10 : Kd.R Kd.string 9 W w.heap.size (fun _ => True) u10 l10) : RdS w ((W.setCell ⟨w.heap.size,9,none⟩ u9).setCell ⟨w.heap.size,10,none⟩ u10) { x with f9:=l9,f10:=l10 } { v with v9:=u9,v10:=u10 } fa fc:=by
 have hS:=(h.rows.set h.C sub65 9 u9).set (blk_set h.C 9 u9) sub65 10 u10
 exact ⟨blk_set (blk_set h.C 9 u9) 10 u10,blk_far (blk_far h.F (p:=⟨w.heap.size,9,none⟩) (Nat.succ_ne_self _) _) (p:=⟨w.heap.size,10,none⟩) (Nat.succ_ne_self _) _,
  ⟨hS.r1,hS.r2,hS.r3,hS.r4,hS.r5,hS.r6,hS.r7,hS.r8,Kd.R_set (Kd.R_set h9 h.C (by decide) 9 u9) (blk_set h.C 9 u9) (by decide) 10 u10,Kd.R_set (Kd.R_set h10 h.C (by decide) 9 u9) (blk_set h.C 9 u9) (by decide) 10 u10⟩,(h.be.setCell (p:=⟨w.heap.size,9,none⟩) (Nat.le_refl _) _).setCell (p:=⟨w.heap.size,10,none⟩) (Nat.le_refl _) _⟩
theorem tail_zero (s : ByteArray) (p : Int) (h : (tailF s p).2.2.2 = 0) : (tailF s p).2.2.1 = 0:=by
 unfold tailF at h ⊢
 by_cases h1 : 262144 < s.size
 ·rw [if_pos h1]
 ·rw [if_neg h1] at h ⊢
  by_cases h2 : p < 0 ∨ (s.size : Int) < p
  ·rw [if_pos h2]
  ·rw [if_neg h2] at h ⊢
   cases hg : tailGo s (s.size + 1) p.toNat false with
   |error e =>
    rw [hg] at h
    exact absurd (show (42 : Int) = 0 from h) (by decide)
   |ok x => rfl
theorem cell_far {W : World} {g i b j : Nat} {u x : Value} (hne : g ≠ b) (h : W.cell? ⟨g,i,none⟩ = some x) : (W.setCell ⟨b,j,none⟩ u).cell? ⟨g,i,none⟩ = some x:=by
 have e:=Below.heap_setCell W ⟨b,j,none⟩ u g hne
 rw [← h]
 simp only [World.cell?,e]
theorem row_ne_blk {W : World} {base g n c b t : Nat} {cs : Array Value} {xs : List Int} (hr : Kd.R (Kd.int .i64) 3 W base (fun _ => True) (.slice (some ⟨g,0,none⟩) n c) xs) (hb : W.heap[b]? = some (.cells cs t (0,0))) (ht : 3 ≠ t) : g ≠ b:=by
 obtain ⟨cells,hc⟩:=Kd.R_typed hr g rfl
 exact blk_ne hc hb ht
theorem read_results {w W : World} {x : S65} {v : VS} {fa fc : Int} {tm : Array Value} (h : RdS w W x v fa fc) (h2 : tm.getD 2 undef = .pointer (some ⟨w.heap.size,0,none⟩)) (h3 : tm.getD 3 undef = .pointer (some ⟨w.heap.size + 1,0,none⟩)) :
  (results Tryz.f17 tm).run Tryz.prog W = .ok (.tuple #[.agg (cellsV x.f0 v),.agg #[.int .i64 fa,.int .i64 fc]]) W :=
 results_list (P:=Tryz.prog) (fn:=Tryz.f17) (tmps:=tm) (w:=W) (rs:=[.cell 2 29,.cell 3 32]) rfl (by simp) (.cell w.heap.size 29 _ (0,0) _ h2 h.C Tryz.underlying29 rfl info65s (.cell (w.heap.size + 1) 32 _ (0,0) _ h3 h.F Tryz.underlying32 rfl info40 .nil))
theorem read_early {w W : World} {x : S65} {v : VS} {fa fc : Int} {tm : Array Value} (h : RdS w W x v fa fc) (h2 : tm.getD 2 undef = .pointer (some ⟨w.heap.size,0,none⟩)) (h3 : tm.getD 3 undef = .pointer (some ⟨w.heap.size + 1,0,none⟩)) :
  bodyPostD Tryz.prog Tryz.f17 (ReadEnd w (x,fa,fc)) .ret { tmps:=tm,defers:=[] } W :=
 ⟨_,read_results h h2 h3,v,rfl,h.rows,h.be⟩
theorem read_ret {w W : World} {x : S65} {v : VS} {fa fc : Int} {tm : Array Value} (h : RdS w W x v fa fc) (h2 : tm.getD 2 undef = .pointer (some ⟨w.heap.size,0,none⟩)) (h3 : tm.getD 3 undef = .pointer (some ⟨w.heap.size + 1,0,none⟩)) :
  bodyPostD Tryz.prog Tryz.f17 (ReadEnd w (x,fa,fc)) .ret { tmps:=tm,defers:=[{ target:=.fn (.func 49) #[.pointer (some ⟨w.heap.size,0,none⟩),.pointer (some ⟨w.heap.size + 1,0,none⟩)],args:=#[] }] } W:=by
 show Leaves _ _ _ _ _ _ _
 refine leaves_cons (f:=49) (args:=#[.pointer (some ⟨w.heap.size,0,none⟩),.pointer (some ⟨w.heap.size + 1,0,none⟩)]) (by simp) (by simp [go_sem]) ?_
 refine (read_idle ⟨w.heap.size,0,none⟩ ⟨w.heap.size + 1,0,none⟩ W).mono ?_
 rintro e' u' w' ⟨rfl,rfl,rfl⟩
 exact ⟨_,read_results h h2 h3,v,rfl,h.rows,h.be⟩
theorem read_panic {w W : World} {x : S65} {v : VS} {fa fc : Int} {tm : Array Value} {e : Nat} (h : RdS w W x v fa fc) (h2 : tm.getD 2 undef = .pointer (some ⟨w.heap.size,0,none⟩)) (h3 : tm.getD 3 undef = .pointer (some ⟨w.heap.size + 1,0,none⟩)) :
  bodyPostD Tryz.prog Tryz.f17 (ReadEnd w (x0S,e,42)) (.panic [{ v:=.iface 32 (faultV e 42),recovered:=false }]) { tmps:=tm,defers:=[{ target:=.fn (.func 49) #[.pointer (some ⟨w.heap.size,0,none⟩),.pointer (some ⟨w.heap.size + 1,0,none⟩)],args:=#[] }] } W:=by
 show Leaves _ _ _ _ _ _ _
 refine leaves_cons (f:=49) (args:=#[.pointer (some ⟨w.heap.size,0,none⟩),.pointer (some ⟨w.heap.size + 1,0,none⟩)]) (by simp) (by simp [go_sem]) ?_
 refine (read_catch w.heap.size (w.heap.size + 1) e 42 [] W (.int .i64 x.f0) v.v1 v.v2 v.v3 v.v4 v.v5 v.v6 v.v7 v.v8 v.v9 v.v10 (.int .i64 fa) (.int .i64 fc) h.C h.F).mono ?_
 rintro e' u' w' ⟨rfl,rfl,kC,kF,hb⟩
 have hb' : Below w.heap.size w w':=h.be.trans (hb _ (Nat.le_refl _) (Nat.le_succ _))
 have hRS : RdS w w' x0S nilVS e 42:=⟨kC,kF,rows_nil _ _,hb'⟩
 exact ⟨_,read_results hRS h2 h3,nilVS,rfl,hRS.rows,hRS.be⟩
set_option maxHeartbeats 4000000 in
set_option maxRecDepth 100000 in
theorem read_calls {w : World} {s : ByteArray} (hG : GV w) (hs : s.size ≤ 140737488355328) : Calls Tryz.prog 17 #[.string s] w (ReadEnd w (readF s)):=by
 obtain ⟨word,k,end_,code,hh⟩ : ∃ a b c d,headF s = (a,b,c,d):=⟨_,_,_,_,rfl⟩
 have hH : Calls Tryz.prog 18 #[.string s] ((w.alloc (.cells #[.int .i64 0,.slice none 0 0,.slice none 0 0,.slice none 0 0,.slice none 0 0,.slice none 0 0,.slice none 0 0,.slice none 0 0,.slice none 0 0,.slice none 0 0,.slice none 0 0] 29)).alloc (.cells #[.int .i64 0,.int .i64 0] 32)) (fun e w' => ∃ v1_ : Value,e = .returned (.tuple #[.string word,v1_,.int .i64 end_,.agg #[.int .i64 0,.int .i64 code]]) ∧ Kd.R (Kd.int .i64) 3 w' ((w.alloc (.cells #[.int .i64 0,.slice none 0 0,.slice none 0 0,.slice none 0 0,.slice none 0 0,.slice none 0 0,.slice none 0 0,.slice none 0 0,.slice none 0 0,.slice none 0 0,.slice none 0 0] 29)).alloc (.cells #[.int .i64 0,.int .i64 0] 32)).heap.size (fun _ => True) v1_ k ∧ Below ((w.alloc (.cells #[.int .i64 0,.slice none 0 0,.slice none 0 0,.slice none 0 0,.slice none 0 0,.slice none 0 0,.slice none 0 0,.slice none 0 0,.slice none 0 0,.slice none 0 0,.slice none 0 0] 29)).alloc (.cells #[.int .i64 0,.int .i64 0] 32)).heap.size ((w.alloc (.cells #[.int .i64 0,.slice none 0 0,.slice none 0 0,.slice none 0 0,.slice none 0 0,.slice none 0 0,.slice none 0 0,.slice none 0 0,.slice none 0 0,.slice none 0 0,.slice none 0 0] 29)).alloc (.cells #[.int .i64 0,.int .i64 0] 32)) w') :=
  ascii_Head.calls s word k end_ 0 code _ (GV_below hG (eA_ (eA_ (Below.refl _ _) _) _)) (by unfold ascii_Head.f;rw [if_pos hs,hh])
 have HH:=A0_.mk hH
 have HRS:=A0_.mk (RdS.begin w)
 have HG:=A0_.mk hG
 have hmf : ∀ (fn : Fn) (first cap : Array Value) (w : World),(Instr.makeFunc fn first cap).run Tryz.prog w = .ok (.func fn first cap) w:=fun _ _ _ _ => rfl
 unfold readF
 rw [hh]
 dsimp only
 clear hH hG
 by_cases c0 : code = 0
 ·subst c0
  rw [if_neg (by decide)]
  have hok:=head_ok hh
  by_cases ca : word = aagB
  ·subst ca
   rw [if_neg (by intro h;exact h rfl)]
   unfold aagB at HH
   obtain ⟨k0,k1,k2,k3,k4,k5,k6,k7,k8,rfl⟩:=list9 hok.len
   have hz:=hok.all_
   obtain ⟨m0,rfl⟩ : ∃ m : Nat,k0 = m:=⟨k0.toNat,by have : 0 ≤ k0:=(hz 0).1;omega⟩
   obtain ⟨m1,rfl⟩ : ∃ m : Nat,k1 = m:=⟨k1.toNat,by have : 0 ≤ k1:=(hz 1).1;omega⟩
   obtain ⟨m2,rfl⟩ : ∃ m : Nat,k2 = m:=⟨k2.toNat,by have : 0 ≤ k2:=(hz 2).1;omega⟩
   obtain ⟨m3,rfl⟩ : ∃ m : Nat,k3 = m:=⟨k3.toNat,by have : 0 ≤ k3:=(hz 3).1;omega⟩
   obtain ⟨m4,rfl⟩ : ∃ m : Nat,k4 = m:=⟨k4.toNat,by have : 0 ≤ k4:=(hz 4).1;omega⟩
   obtain ⟨m5,rfl⟩ : ∃ m : Nat,k5 = m:=⟨k5.toNat,by have : 0 ≤ k5:=(hz 5).1;omega⟩
   obtain ⟨m6,rfl⟩ : ∃ m : Nat,k6 = m:=⟨k6.toNat,by have : 0 ≤ k6:=(hz 6).1;omega⟩
   obtain ⟨m7,rfl⟩ : ∃ m : Nat,k7 = m:=⟨k7.toNat,by have : 0 ≤ k7:=(hz 7).1;omega⟩
   obtain ⟨m8,rfl⟩ : ∃ m : Nat,k8 = m:=⟨k8.toNat,by have : 0 ≤ k8:=(hz 8).1;omega⟩
   obtain ⟨p,rfl⟩ : ∃ m : Nat,end_ = m:=⟨end_.toNat,by have:=hok.place;omega⟩
   have HM:=A0_.mk (show m1 ≤ 16384 ∧ m2 ≤ 16384 ∧ m3 ≤ 16384 ∧ m4 ≤ 16384 ∧ m5 ≤ 16384 ∧ m6 ≤ 16384 ∧ m7 ≤ 16384 ∧ m8 ≤ 16384 from ⟨Int.ofNat_le.1 (hz 1).2,Int.ofNat_le.1 (hz 2).2,Int.ofNat_le.1 (hz 3).2,Int.ofNat_le.1 (hz 4).2,Int.ofNat_le.1 (hz 5).2,Int.ofNat_le.1 (hz 6).2,Int.ofNat_le.1 (hz 7).2,Int.ofNat_le.1 (hz 8).2⟩)
   have HP:=A0_.mk (show p ≤ s.size by have:=hok.place;omega)
   have HS:=A0_.mk hok.size
   have e9 : readBody s (bodyN s (([(m0 : Int),m1,m2,m3,m4,m5,m6,m7,m8] : List Int).getD 0 0).toNat (([(m0 : Int),m1,m2,m3,m4,m5,m6,m7,m8] : List Int).getD 1 0).toNat (([(m0 : Int),m1,m2,m3,m4,m5,m6,m7,m8] : List Int).getD 2 0).toNat (([(m0 : Int),m1,m2,m3,m4,m5,m6,m7,m8] : List Int).getD 3 0).toNat (([(m0 : Int),m1,m2,m3,m4,m5,m6,m7,m8] : List Int).getD 4 0).toNat (([(m0 : Int),m1,m2,m3,m4,m5,m6,m7,m8] : List Int).getD 5 0).toNat (([(m0 : Int),m1,m2,m3,m4,m5,m6,m7,m8] : List Int).getD 6 0).toNat (([(m0 : Int),m1,m2,m3,m4,m5,m6,m7,m8] : List Int).getD 7 0).toNat (([(m0 : Int),m1,m2,m3,m4,m5,m6,m7,m8] : List Int).getD 8 0).toNat (p : Int).toNat) = readBody s (bodyN s m0 m1 m2 m3 m4 m5 m6 m7 m8 p):=rfl
   rw [e9]
   obtain ⟨FIN,hFIN⟩ : ∃ F,readBody s (bodyN s m0 m1 m2 m3 m4 m5 m6 m7 m8 p) = F:=⟨_,rfl⟩
   rw [hFIN]
   have HFIN:=A0_.mk hFIN
   clear e9 hz hok hh hs hFIN
   go_enter_defers Tryz.func17,Tryz.ntmps17
   go_upto_region 8 with (first|(go_at_call 18;refine HH.out.mono ?_;rintro e w1 ⟨v1,rfl,hr,hb⟩;obtain ⟨g,n1,rfl,hgb,hcc⟩:=row_some hr (Nat.succ_pos _);have HCC:=A0_.mk hcc;have HRS1:=A0_.mk (HRS.out.below hb);have HR1:=A0_.mk (Kd.R_lower hr HRS.out.be.size);have f0:=bC_ HRS1.out.F 0;have f1:=bC_ HRS1.out.F 1;have q0:=bF_ HRS1.out.F 0;have q1:=bF_ HRS1.out.F 1;clear hr hb hgb hcc))
   have h2:=HRS1.out.setF 0 0
   have hc2 : ∀ i : Nat,i < 9 → ((w1.setCell ⟨w.heap.size + 1,0,none⟩ (.int .i64 0)).setCell ⟨w.heap.size + 1,1,none⟩ (.int .i64 0)).cell? ⟨g,i,none⟩ = some (.int .i64 ((([m0,m1,m2,m3,m4,m5,m6,m7,m8] : List Nat).getD i 0 : Nat) : Int)):=fun i hi => cell_far (row_ne_blk HR1.out HRS1.out.F (by decide)) (cell_far (row_ne_blk HR1.out HRS1.out.F (by decide)) (by
    have h:=HCC.out i hi
    rw [h]
    congr 2
    rcases i with _|_|_|_|_|_|_|_|_|i
    all_goals first|rfl|(exfalso;omega)))
   have hsz : ((w1.setCell ⟨w.heap.size + 1,0,none⟩ (.int .i64 0)).setCell ⟨w.heap.size + 1,1,none⟩ (.int .i64 0)).heap.size = w1.heap.size:=by simp only [World.size_setCell]
   have hrd:=blk_new ((w1.setCell ⟨w.heap.size + 1,0,none⟩ (.int .i64 0)).setCell ⟨w.heap.size + 1,1,none⟩ (.int .i64 0)) (.cells #[.string s,.int .i64 (p : Int)] 88)
   rw [hsz] at hrd
   have hab:=eA_ (Below.refl ((w1.setCell ⟨w.heap.size + 1,0,none⟩ (.int .i64 0)).setCell ⟨w.heap.size + 1,1,none⟩ (.int .i64 0)).heap.size ((w1.setCell ⟨w.heap.size + 1,0,none⟩ (.int .i64 0)).setCell ⟨w.heap.size + 1,1,none⟩ (.int .i64 0))) (.cells #[.string s,.int .i64 (p : Int)] 88)
   have h3:=h2.below hab
   have hc3:=fun i hi => pw_cell_below hab (hc2 i hi)
   have hg1 : g < w1.heap.size:=by obtain ⟨cells,hcl⟩:=Kd.R_typed HR1.out g rfl;exact blk_lt hcl
   have hr1 : w.heap.size + 1 < w1.heap.size:=blk_lt HRS1.out.F
   clear h2 hc2 hsz hab f0 f1 q0 q1
   generalize (((w1.setCell ⟨w.heap.size + 1,0,none⟩ (.int .i64 0)).setCell ⟨w.heap.size + 1,1,none⟩ (.int .i64 0)).alloc (.cells #[.string s,.int .i64 (p : Int)] 88)) = W3 at hrd h3 hc3 ⊢
   generalize w1.heap.size = RB at hrd hg1 hr1 ⊢
   have hRL : RB < W3.heap.size:=blk_lt hrd
   have hBODY:=body_calls (w0:=w) (w:=W3) (R:=RB) (p:=p) (gn:=g) (cn:=n1) (s:=s) m0 m1 m2 m3 m4 m5 m6 m7 m8 HG.out h3.be (by omega) hrd HP.out HS.out (by omega) (by omega) HM.out hc3
   have H3:=A0_.mk h3
   have HRB:=A0_.mk hr1
   have HSZ3:=A0_.mk (show w.heap.size ≤ W3.heap.size from h3.be.size)
   cases hbn : bodyN s m0 m1 m2 m3 m4 m5 m6 m7 m8 p with
   |error e0 =>
    rw [hbn] at hBODY
    have HBODY:=A0_.mk (show Calls Tryz.prog 50 #[.pointer (some ⟨RB,0,none⟩),.slice (some ⟨g,0,none⟩) 9 n1] W3 (fun e w' => e = .panicked [{ v:=.iface 32 (faultV e0 42),recovered:=false }] ∧ KR W3 w' RB) from hBODY)
    have hf:=HFIN.out
    rw [hbn] at hf
    dsimp only [readBody] at hf
    subst hf
    clear hBODY hrd h3 hc3 hg1 hr1 hRL hbn HFIN
    go_wp2_with (go_at_call 50;refine HBODY.out.mono ?_;rintro e w4 ⟨rfl,hk⟩)
    exact read_panic (H3.out.kr0 hk HRB.out) rfl rfl
   |ok cq =>
    obtain ⟨c,q⟩:=cq
    rw [hbn] at hBODY
    have HBODY:=A0_.mk (show Calls Tryz.prog 50 #[.pointer (some ⟨RB,0,none⟩),.slice (some ⟨g,0,none⟩) 9 n1] W3 (fun e w' => ∃ v : VS,e = .returned (.agg (cellsV c.f0 v)) ∧ CRows w' W3.heap.size c v ∧ RD w' RB s q ∧ KR W3 w' RB) from hBODY)
    have HBN:=A0_.mk hbn
    have hf:=HFIN.out
    rw [hbn] at hf
    dsimp only [readBody] at hf
    replace HFIN:=A0_.mk hf
    clear hf
    clear hBODY hrd h3 hc3 hg1 hr1 hRL hbn
    go_upto_region 9 with (first|(go_at_call 50;refine HBODY.out.mono ?_;rintro e w4 ⟨v,rfl,hrows,hrd,hkr⟩;obtain ⟨v1,v2,v3,v4,v5,v6,v7,v8,v9,v10⟩:=v;obtain ⟨A1,n1,rfl⟩:=Kd.R_slice (CRows.r1 hrows);obtain ⟨A2,n2,rfl⟩:=Kd.R_slice (CRows.r2 hrows);obtain ⟨A3,n3,rfl⟩:=Kd.R_slice (CRows.r3 hrows);obtain ⟨A4,n4,rfl⟩:=Kd.R_slice (CRows.r4 hrows);obtain ⟨A5,n5,rfl⟩:=Kd.R_slice (CRows.r5 hrows);obtain ⟨A6,n6,rfl⟩:=Kd.R_slice (CRows.r6 hrows);obtain ⟨A7,n7,rfl⟩:=Kd.R_slice (CRows.r7 hrows);obtain ⟨A8,n8,rfl⟩:=Kd.R_slice (CRows.r8 hrows);obtain ⟨A9,n9,rfl⟩:=Kd.R_slice (CRows.r9 hrows);obtain ⟨A10,n10,rfl⟩:=Kd.R_slice (CRows.r10 hrows);have H4:=A0_.mk (H3.out.kr0 hkr HRB.out);have HROW:=A0_.mk (hrows.lower HSZ3.out);have HRD:=A0_.mk hrd;dsimp only [cellsV];have e0 : w4.cell? ⟨w.heap.size,0,none⟩ = some (.int .i64 0):=bC_ H4.out.C 0;have g0:=bF_ H4.out.C 0;have e1 : w4.cell? ⟨w.heap.size,1,none⟩ = some (.slice none 0 0):=bC_ H4.out.C 1;have g1:=bF_ H4.out.C 1;have e2 : w4.cell? ⟨w.heap.size,2,none⟩ = some (.slice none 0 0):=bC_ H4.out.C 2;have g2:=bF_ H4.out.C 2;have e3 : w4.cell? ⟨w.heap.size,3,none⟩ = some (.slice none 0 0):=bC_ H4.out.C 3;have g3:=bF_ H4.out.C 3;have e4 : w4.cell? ⟨w.heap.size,4,none⟩ = some (.slice none 0 0):=bC_ H4.out.C 4;have g4:=bF_ H4.out.C 4;have e5 : w4.cell? ⟨w.heap.size,5,none⟩ = some (.slice none 0 0):=bC_ H4.out.C 5;have g5:=bF_ H4.out.C 5;have e6 : w4.cell? ⟨w.heap.size,6,none⟩ = some (.slice none 0 0):=bC_ H4.out.C 6;have g6:=bF_ H4.out.C 6;have e7 : w4.cell? ⟨w.heap.size,7,none⟩ = some (.slice none 0 0):=bC_ H4.out.C 7;have g7:=bF_ H4.out.C 7;have e8 : w4.cell? ⟨w.heap.size,8,none⟩ = some (.slice none 0 0):=bC_ H4.out.C 8;have g8:=bF_ H4.out.C 8;have e9 : w4.cell? ⟨w.heap.size,9,none⟩ = some (.slice none 0 0):=bC_ H4.out.C 9;have g9:=bF_ H4.out.C 9;have e10 : w4.cell? ⟨w.heap.size,10,none⟩ = some (.slice none 0 0):=bC_ H4.out.C 10;have g10:=bF_ H4.out.C 10;clear hrows hrd hkr))
    have h5:=H4.out.setC HROW.out
    have hrd5:=HRD.out.set11 (b:=w.heap.size) (by have:=HRB.out;omega) (.int .i64 c.f0) (.slice A1 c.f1.length n1) (.slice A2 c.f2.length n2) (.slice A3 c.f3.length n3) (.slice A4 c.f4.length n4) (.slice A5 c.f5.length n5) (.slice A6 c.f6.length n6) (.slice A7 c.f7.length n7) (.slice A8 c.f8.length n8) (.slice A9 c.f9.length n9) (.slice A10 c.f10.length n10)
    dsimp only at h5
    clear e0 g0 e1 g1 e2 g2 e3 g3 e4 g4 e5 g5 e6 g6 e7 g7 e8 g8 e9 g9 e10 g10
    generalize (((((((((((w4).setCell ⟨w.heap.size,0,none⟩ (.int .i64 c.f0)).setCell ⟨w.heap.size,1,none⟩ (.slice A1 c.f1.length n1)).setCell ⟨w.heap.size,2,none⟩ (.slice A2 c.f2.length n2)).setCell ⟨w.heap.size,3,none⟩ (.slice A3 c.f3.length n3)).setCell ⟨w.heap.size,4,none⟩ (.slice A4 c.f4.length n4)).setCell ⟨w.heap.size,5,none⟩ (.slice A5 c.f5.length n5)).setCell ⟨w.heap.size,6,none⟩ (.slice A6 c.f6.length n6)).setCell ⟨w.heap.size,7,none⟩ (.slice A7 c.f7.length n7)).setCell ⟨w.heap.size,8,none⟩ (.slice A8 c.f8.length n8)).setCell ⟨w.heap.size,9,none⟩ (.slice A9 c.f9.length n9)).setCell ⟨w.heap.size,10,none⟩ (.slice A10 c.f10.length n10) = W5 at h5 hrd5 ⊢
    obtain ⟨t1,t2,ta,tc,ht⟩ : ∃ a b c d,tailF s q = (a,b,c,d):=⟨_,_,_,_,rfl⟩
    have hT:=ascii_Tail.calls s q t1 t2 ta tc W5 (GV_below HG.out h5.be) (by unfold ascii_Tail.f;rw [if_pos (by have:=HS.out;omega),ht])
    have HT:=A0_.mk hT
    have H5:=A0_.mk h5
    have HTF:=A0_.mk ht
    have cr:=bC_ hrd5 1
    clear hT h5 hrd5 HRD H4 HROW
    go_upto_region 10 with (first|(go_at_call 23;refine HT.out.mono ?_;rintro e w6 ⟨v0,v1,rfl,hr0,hr1,hb⟩;obtain ⟨A9',n9',rfl⟩:=Kd.R_slice hr0;obtain ⟨A10',n10',rfl⟩:=Kd.R_slice hr1;have H6:=A0_.mk (H5.out.below hb);have HR9:=A0_.mk (Kd.R_lower hr0 H5.out.be.size);have HR10:=A0_.mk (Kd.R_lower hr1 H5.out.be.size);have d0:=bC_ H6.out.F 0;have d1:=bC_ H6.out.F 1;have q0:=bF_ H6.out.F 0;have q1:=bF_ H6.out.F 1;clear hr0 hr1 hb))
    have h7:=H6.out.setF ta tc
    have hr9:=Kd.R_set (Kd.R_set HR9.out H6.out.F (by decide) 0 (.int .i64 ta)) (blk_set H6.out.F 0 (.int .i64 ta)) (by decide) 1 (.int .i64 tc)
    have hr10:=Kd.R_set (Kd.R_set HR10.out H6.out.F (by decide) 0 (.int .i64 ta)) (blk_set H6.out.F 0 (.int .i64 ta)) (by decide) 1 (.int .i64 tc)
    clear d0 d1 q0 q1 cr
    generalize (w6.setCell ⟨w.heap.size + 1,0,none⟩ (.int .i64 ta)).setCell ⟨w.heap.size + 1,1,none⟩ (.int .i64 tc) = W7 at h7 hr9 hr10 ⊢
    have hfc:=tail_zero s q
    have hf:=HFIN.out
    rw [HTF.out] at hfc hf
    unfold readEnd at hf
    dsimp only at hfc hf
    by_cases ct : tc = 0
    ·obtain rfl : ta = 0:=hfc ct
     subst ct
     rw [if_neg (by decide)] at hf
     clear hfc HFIN
     have l0':=bC_ h7.F 0
     have l1':=bC_ h7.F 1
     go_upto_region 12 with (fail)
     clear l0' l1'
     have e9 : W7.cell? ⟨w.heap.size,9,none⟩ = some (.slice A9 c.f9.length n9):=bC_ h7.C 9
     have g9:=bF_ h7.C 9
     have e10 : W7.cell? ⟨w.heap.size,10,none⟩ = some (.slice A10 c.f10.length n10):=bC_ h7.C 10
     have g10:=bF_ h7.C 10
     go_upto_region 13 with (fail)
     have h8:=h7.put910 hr9 hr10
     dsimp only at h8
     clear e9 g9 e10 g10 h7 hr9 hr10
     generalize (W7.setCell ⟨w.heap.size,9,none⟩ (.slice A9' t1.length n9')).setCell ⟨w.heap.size,10,none⟩ (.slice A10' t2.length n10') = W8 at h8 ⊢
     have hj:=bodyN_just HBN.out
     have hts:=tailF_size s q HS.out
     rw [HTF.out] at hts
     have hCR : CR W8 { c with f9:=t1,f10:=t2 } ⟨A1,A2,A3,A4,A5,A6,A7,A8,A9',A10',n1,n2,n3,n4,n5,n6,n7,n8,n9',n10'⟩:=⟨(Kd.R_reads' h8.rows.r1).2.2,(Kd.R_reads' h8.rows.r2).2.2,(Kd.R_reads' h8.rows.r3).2.2,(Kd.R_reads' h8.rows.r4).2.2,(Kd.R_reads' h8.rows.r5).2.2,(Kd.R_reads' h8.rows.r6).2.2,(Kd.R_reads' h8.rows.r7).2.2,(Kd.R_reads' h8.rows.r8).2.2,(Kd.R_reads' h8.rows.r9).2.2,(Kd.R_reads' h8.rows.r10).2.2⟩
     have hCap : Caps { c with f9:=t1,f10:=t2 } ⟨A1,A2,A3,A4,A5,A6,A7,A8,A9',A10',n1,n2,n3,n4,n5,n6,n7,n8,n9',n10'⟩:=⟨(Kd.R_reads' h8.rows.r1).2.1,(Kd.R_reads' h8.rows.r2).2.1,(Kd.R_reads' h8.rows.r3).2.1,(Kd.R_reads' h8.rows.r4).2.1,(Kd.R_reads' h8.rows.r5).2.1,(Kd.R_reads' h8.rows.r6).2.1,(Kd.R_reads' h8.rows.r7).2.1,(Kd.R_reads' h8.rows.r8).2.1,(Kd.R_reads' h8.rows.r9).2.1,(Kd.R_reads' h8.rows.r10).2.1⟩
     have hCK:=check_calls hCR hCap (fun r hr => by have:=hj r hr;omega) (fun x hx => by have:=hts x hx;omega)
     obtain ⟨y1,y2,hy⟩ : ∃ y1 y2,lookF { c with f9:=t1,f10:=t2 } = (y1,y2):=⟨_,_,rfl⟩
     rw [hy] at hCK hf
     dsimp only [cellsC] at hCK hf
     have HCK:=A0_.mk hCK
     have H8:=A0_.mk h8
     clear hj hts hCR hCap hCK hy
     have e0 : W8.cell? ⟨w.heap.size,0,none⟩ = some (.int .i64 c.f0):=bC_ h8.C 0
     have g0:=bF_ h8.C 0
     have e1 : W8.cell? ⟨w.heap.size,1,none⟩ = some (.slice A1 c.f1.length n1):=bC_ h8.C 1
     have g1:=bF_ h8.C 1
     have e2 : W8.cell? ⟨w.heap.size,2,none⟩ = some (.slice A2 c.f2.length n2):=bC_ h8.C 2
     have g2:=bF_ h8.C 2
     have e3 : W8.cell? ⟨w.heap.size,3,none⟩ = some (.slice A3 c.f3.length n3):=bC_ h8.C 3
     have g3:=bF_ h8.C 3
     have e4 : W8.cell? ⟨w.heap.size,4,none⟩ = some (.slice A4 c.f4.length n4):=bC_ h8.C 4
     have g4:=bF_ h8.C 4
     have e5 : W8.cell? ⟨w.heap.size,5,none⟩ = some (.slice A5 c.f5.length n5):=bC_ h8.C 5
     have g5:=bF_ h8.C 5
     have e6 : W8.cell? ⟨w.heap.size,6,none⟩ = some (.slice A6 c.f6.length n6):=bC_ h8.C 6
     have g6:=bF_ h8.C 6
     have e7 : W8.cell? ⟨w.heap.size,7,none⟩ = some (.slice A7 c.f7.length n7):=bC_ h8.C 7
     have g7:=bF_ h8.C 7
     have e8 : W8.cell? ⟨w.heap.size,8,none⟩ = some (.slice A8 c.f8.length n8):=bC_ h8.C 8
     have g8:=bF_ h8.C 8
     have e9 : W8.cell? ⟨w.heap.size,9,none⟩ = some (.slice A9' t1.length n9'):=bC_ h8.C 9
     have g9:=bF_ h8.C 9
     have e10 : W8.cell? ⟨w.heap.size,10,none⟩ = some (.slice A10' t2.length n10'):=bC_ h8.C 10
     have g10:=bF_ h8.C 10
     clear h8
     by_cases cy : y2 = 0
     ·subst cy
      rw [if_neg (by decide)] at hf
      subst hf
      go_upto_region 16 with (first|(go_at_call 24;refine HCK.out.mono ?_;rintro e w9 ⟨rfl,hb⟩;have H9:=A0_.mk (H8.out.below hb);clear hb))
      clear e0 g0 e1 g1 e2 g2 e3 g3 e4 g4 e5 g5 e6 g6 e7 g7 e8 g8 e9 g9 e10 g10
      have h9:=H9.out
      have e0 : w9.cell? ⟨w.heap.size,0,none⟩ = some (.int .i64 c.f0):=bC_ h9.C 0
      have g0:=bF_ h9.C 0
      have e1 : w9.cell? ⟨w.heap.size,1,none⟩ = some (.slice A1 c.f1.length n1):=bC_ h9.C 1
      have g1:=bF_ h9.C 1
      have e2 : w9.cell? ⟨w.heap.size,2,none⟩ = some (.slice A2 c.f2.length n2):=bC_ h9.C 2
      have g2:=bF_ h9.C 2
      have e3 : w9.cell? ⟨w.heap.size,3,none⟩ = some (.slice A3 c.f3.length n3):=bC_ h9.C 3
      have g3:=bF_ h9.C 3
      have e4 : w9.cell? ⟨w.heap.size,4,none⟩ = some (.slice A4 c.f4.length n4):=bC_ h9.C 4
      have g4:=bF_ h9.C 4
      have e5 : w9.cell? ⟨w.heap.size,5,none⟩ = some (.slice A5 c.f5.length n5):=bC_ h9.C 5
      have g5:=bF_ h9.C 5
      have e6 : w9.cell? ⟨w.heap.size,6,none⟩ = some (.slice A6 c.f6.length n6):=bC_ h9.C 6
      have g6:=bF_ h9.C 6
      have e7 : w9.cell? ⟨w.heap.size,7,none⟩ = some (.slice A7 c.f7.length n7):=bC_ h9.C 7
      have g7:=bF_ h9.C 7
      have e8 : w9.cell? ⟨w.heap.size,8,none⟩ = some (.slice A8 c.f8.length n8):=bC_ h9.C 8
      have g8:=bF_ h9.C 8
      have e9 : w9.cell? ⟨w.heap.size,9,none⟩ = some (.slice A9' t1.length n9'):=bC_ h9.C 9
      have g9:=bF_ h9.C 9
      have e10 : w9.cell? ⟨w.heap.size,10,none⟩ = some (.slice A10' t2.length n10'):=bC_ h9.C 10
      have g10:=bF_ h9.C 10
      have d0:=bC_ h9.F 0
      have d1:=bC_ h9.F 1
      have q0:=bF_ h9.F 0
      have q1:=bF_ h9.F 1
      have h10:=h9.setC h9.rows
      dsimp only at h10
      have h11:=RdS.setF h10 0 0
      have H11:=A0_.mk h11
      clear h9 h10 h11
      go_wp2
      exact read_ret H11.out rfl rfl
     ·rw [if_pos cy] at hf
      subst hf
      have cyb : (y2 == 0) = false:=beq_eq_false_iff_ne.mpr cy
      have HCY:=A0_.mk cy
      clear cy
      go_upto_region 15 with (first|(go_at_call 24;refine HCK.out.mono ?_;rintro e w9 ⟨rfl,hb⟩;have H9:=A0_.mk (H8.out.below hb);clear hb))
      clear e0 g0 e1 g1 e2 g2 e3 g3 e4 g4 e5 g5 e6 g6 e7 g7 e8 g8 e9 g9 e10 g10
      have h9:=H9.out
      have e0 : w9.cell? ⟨w.heap.size,0,none⟩ = some (.int .i64 c.f0):=bC_ h9.C 0
      have g0:=bF_ h9.C 0
      have e1 : w9.cell? ⟨w.heap.size,1,none⟩ = some (.slice A1 c.f1.length n1):=bC_ h9.C 1
      have g1:=bF_ h9.C 1
      have e2 : w9.cell? ⟨w.heap.size,2,none⟩ = some (.slice A2 c.f2.length n2):=bC_ h9.C 2
      have g2:=bF_ h9.C 2
      have e3 : w9.cell? ⟨w.heap.size,3,none⟩ = some (.slice A3 c.f3.length n3):=bC_ h9.C 3
      have g3:=bF_ h9.C 3
      have e4 : w9.cell? ⟨w.heap.size,4,none⟩ = some (.slice A4 c.f4.length n4):=bC_ h9.C 4
      have g4:=bF_ h9.C 4
      have e5 : w9.cell? ⟨w.heap.size,5,none⟩ = some (.slice A5 c.f5.length n5):=bC_ h9.C 5
      have g5:=bF_ h9.C 5
      have e6 : w9.cell? ⟨w.heap.size,6,none⟩ = some (.slice A6 c.f6.length n6):=bC_ h9.C 6
      have g6:=bF_ h9.C 6
      have e7 : w9.cell? ⟨w.heap.size,7,none⟩ = some (.slice A7 c.f7.length n7):=bC_ h9.C 7
      have g7:=bF_ h9.C 7
      have e8 : w9.cell? ⟨w.heap.size,8,none⟩ = some (.slice A8 c.f8.length n8):=bC_ h9.C 8
      have g8:=bF_ h9.C 8
      have e9 : w9.cell? ⟨w.heap.size,9,none⟩ = some (.slice A9' t1.length n9'):=bC_ h9.C 9
      have g9:=bF_ h9.C 9
      have e10 : w9.cell? ⟨w.heap.size,10,none⟩ = some (.slice A10' t2.length n10'):=bC_ h9.C 10
      have g10:=bF_ h9.C 10
      have d0:=bC_ h9.F 0
      have d1:=bC_ h9.F 1
      have q0:=bF_ h9.F 0
      have q1:=bF_ h9.F 1
      have h10:=h9.setC (rows_nil w9 w.heap.size)
      dsimp only [nilVS,x0S] at h10
      have h11:=RdS.setF h10 0 y2
      have H11:=A0_.mk h11
      clear h9 h10 h11
      go_wp2
      exact read_ret H11.out rfl rfl
    ·rw [if_pos ct] at hf
     subst hf
     have ctb : (tc == 0) = false:=beq_eq_false_iff_ne.mpr ct
     have HCT:=A0_.mk ct
     clear hfc ct HFIN
     have l0':=bC_ h7.F 0
     have l1':=bC_ h7.F 1
     go_upto_region 11 with (fail)
     clear l0' l1'
     have hC0:=h7.C
     have hF0:=h7.F
     have e0 : W7.cell? ⟨w.heap.size,0,none⟩ = some (.int .i64 c.f0):=bC_ hC0 0
     have g0:=bF_ hC0 0
     have e1 : W7.cell? ⟨w.heap.size,1,none⟩ = some (.slice A1 c.f1.length n1):=bC_ hC0 1
     have g1:=bF_ hC0 1
     have e2 : W7.cell? ⟨w.heap.size,2,none⟩ = some (.slice A2 c.f2.length n2):=bC_ hC0 2
     have g2:=bF_ hC0 2
     have e3 : W7.cell? ⟨w.heap.size,3,none⟩ = some (.slice A3 c.f3.length n3):=bC_ hC0 3
     have g3:=bF_ hC0 3
     have e4 : W7.cell? ⟨w.heap.size,4,none⟩ = some (.slice A4 c.f4.length n4):=bC_ hC0 4
     have g4:=bF_ hC0 4
     have e5 : W7.cell? ⟨w.heap.size,5,none⟩ = some (.slice A5 c.f5.length n5):=bC_ hC0 5
     have g5:=bF_ hC0 5
     have e6 : W7.cell? ⟨w.heap.size,6,none⟩ = some (.slice A6 c.f6.length n6):=bC_ hC0 6
     have g6:=bF_ hC0 6
     have e7 : W7.cell? ⟨w.heap.size,7,none⟩ = some (.slice A7 c.f7.length n7):=bC_ hC0 7
     have g7:=bF_ hC0 7
     have e8 : W7.cell? ⟨w.heap.size,8,none⟩ = some (.slice A8 c.f8.length n8):=bC_ hC0 8
     have g8:=bF_ hC0 8
     have e9 : W7.cell? ⟨w.heap.size,9,none⟩ = some (.slice A9 c.f9.length n9):=bC_ hC0 9
     have g9:=bF_ hC0 9
     have e10 : W7.cell? ⟨w.heap.size,10,none⟩ = some (.slice A10 c.f10.length n10):=bC_ hC0 10
     have g10:=bF_ hC0 10
     have l0 : W7.cell? ⟨w.heap.size + 1,0,none⟩ = some (.int .i64 ta):=bC_ hF0 0
     have l1 : W7.cell? ⟨w.heap.size + 1,1,none⟩ = some (.int .i64 tc):=bC_ hF0 1
     refine wp_normal' ?_
     refine start_ (n:=4) (S:=fun w' => w'.cell? ⟨w.heap.size + 1,0,none⟩ = some (.int .i64 ta) ∧ w'.cell? ⟨w.heap.size + 1,1,none⟩ = some (.int .i64 tc)) (ds:=[3]) #[false,false,false,false] (by kernel_rfl) rfl rfl ⟨l0,l1⟩ (fun hHeld => ?_)
     refine pure_ (i:=0) (N:=some 49) (v:=?_) (a':=?_) #[true,false,false,false] rfl rfl (by kernel_rfl) (fun _ _ _ h => by cases h.1) (Or.inl ⟨by rfl,?_⟩) ?_ ?_
     rotate_left
     ·intro w'
      go_simp
      with_reducible rfl
     rotate_left
     ·simp only [Act.put,sA_,sB_,sC_]
      rfl
     refine take_ (i:=1) (N:=some 50) (v:=?_) (a':=?_) #[true,true,false,false] rfl rfl (by kernel_rfl) (fun _ _ _ h => by cases h.1) (Or.inl ⟨by rfl,?_⟩) hHeld ?_ ?_
     rotate_left
     ·intro w' s0
      obtain ⟨s0_,s1_⟩:=s0
      go_simp
      with_reducible rfl
     rotate_left
     ·simp only [Act.put,sA_,sB_,sC_]
      rfl
     refine one_ (i:=2) (N:=none) #[true,true,true,false] rfl rfl (by kernel_rfl) (by decide) (fun K hK => ?_)
     refine skip_ (w1:=(((((((((((W7.drew).setCell ⟨w.heap.size,0,none⟩ (.int .i64 0)).setCell ⟨w.heap.size,1,none⟩ (.slice none 0 0)).setCell ⟨w.heap.size,2,none⟩ (.slice none 0 0)).setCell ⟨w.heap.size,3,none⟩ (.slice none 0 0)).setCell ⟨w.heap.size,4,none⟩ (.slice none 0 0)).setCell ⟨w.heap.size,5,none⟩ (.slice none 0 0)).setCell ⟨w.heap.size,6,none⟩ (.slice none 0 0)).setCell ⟨w.heap.size,7,none⟩ (.slice none 0 0)).setCell ⟨w.heap.size,8,none⟩ (.slice none 0 0)).setCell ⟨w.heap.size,9,none⟩ (.slice none 0 0)).setCell ⟨w.heap.size,10,none⟩ (.slice none 0 0)) rfl rfl ?_ ?_
     ·go_simp
     have h3:=(h7.below (below_drew (Below.refl W7.heap.size W7))).setC (rows_nil W7.drew w.heap.size)
     dsimp only [nilVS,x0S] at h3
     have hF3:=h3.F
     refine hK.out _ _ ⟨bC_ hF3 0,bC_ hF3 1⟩ (fun hHeld2 => ?_)
     clear hK K hHeld l0 l1 e0 g0 e1 g1 e2 g2 e3 g3 e4 g4 e5 g5 e6 g6 e7 g7 e8 g8 e9 g9 e10 g10
     generalize (((((((((((W7.drew).setCell ⟨w.heap.size,0,none⟩ (.int .i64 0)).setCell ⟨w.heap.size,1,none⟩ (.slice none 0 0)).setCell ⟨w.heap.size,2,none⟩ (.slice none 0 0)).setCell ⟨w.heap.size,3,none⟩ (.slice none 0 0)).setCell ⟨w.heap.size,4,none⟩ (.slice none 0 0)).setCell ⟨w.heap.size,5,none⟩ (.slice none 0 0)).setCell ⟨w.heap.size,6,none⟩ (.slice none 0 0)).setCell ⟨w.heap.size,7,none⟩ (.slice none 0 0)).setCell ⟨w.heap.size,8,none⟩ (.slice none 0 0)).setCell ⟨w.heap.size,9,none⟩ (.slice none 0 0)).setCell ⟨w.heap.size,10,none⟩ (.slice none 0 0) = W3 at h3 hF3 hHeld2 ⊢
     have d0:=bC_ hF3 0
     have d1:=bC_ hF3 1
     have q0':=bF_ hF3 0
     have q1':=bF_ hF3 1
     refine last_ (i:=3) (N:=none) #[true,true,true,true] rfl rfl (by kernel_rfl) (by decide) (fun K hK => ?_)
     refine skip_ (w1:=(W3.setCell ⟨w.heap.size + 1,0,none⟩ (.int .i64 ta)).setCell ⟨w.heap.size + 1,1,none⟩ (.int .i64 tc)) rfl rfl ?_ ?_
     ·go_simp
     refine hK.out _ _ ?_
     clear hK K
     have h4 : RdS w _ x0S nilVS ta tc:=RdS.setF h3 (ta) (tc)
     clear d0 d1 q0' q1' h3 hF3 hHeld2 hC0 hF0
     generalize (W3.setCell ⟨w.heap.size + 1,0,none⟩ (.int .i64 ta)).setCell ⟨w.heap.size + 1,1,none⟩ (.int .i64 tc) = W4 at h4 ⊢
     refine done_ (by kernel_rfl) ?_
     refine ⟨rfl,?_⟩
     rename_i hKK
     refine hKK _ _ ?_
     have H4:=A0_.mk h4
     clear hKK h4
     go_wp2
     exact read_ret H4.out rfl rfl
  ·rw [if_pos ca]
   have cab:=bytes_ne ca
   clear ca hh hs hok
   go_enter_defers Tryz.func17,Tryz.ntmps17
   go_upto_region 5 with (first|(go_at_call 18;refine HH.out.mono ?_;rintro e w1 ⟨v1,rfl,hr,hb⟩;obtain ⟨A1,n1,rfl⟩:=Kd.R_slice hr;have HRS1:=A0_.mk (HRS.out.below hb);have HR1:=A0_.mk (Kd.R_lower hr HRS.out.be.size);have f0:=bC_ HRS1.out.F 0;have f1:=bC_ HRS1.out.F 1;have q0:=bF_ HRS1.out.F 0;have q1:=bF_ HRS1.out.F 1;clear hr hb))
   have h2:=HRS1.out.setF 0 0
   clear f0 f1 q0 q1
   generalize (w1.setCell ⟨w.heap.size + 1,0,none⟩ (.int .i64 0)).setCell ⟨w.heap.size + 1,1,none⟩ (.int .i64 0) = W2 at h2 ⊢
   have e0 : W2.cell? ⟨w.heap.size,0,none⟩ = some (.int .i64 0):=bC_ h2.C 0
   have g0:=bF_ h2.C 0
   have e1 : W2.cell? ⟨w.heap.size,1,none⟩ = some (.slice none 0 0):=bC_ h2.C 1
   have g1:=bF_ h2.C 1
   have e2 : W2.cell? ⟨w.heap.size,2,none⟩ = some (.slice none 0 0):=bC_ h2.C 2
   have g2:=bF_ h2.C 2
   have e3 : W2.cell? ⟨w.heap.size,3,none⟩ = some (.slice none 0 0):=bC_ h2.C 3
   have g3:=bF_ h2.C 3
   have e4 : W2.cell? ⟨w.heap.size,4,none⟩ = some (.slice none 0 0):=bC_ h2.C 4
   have g4:=bF_ h2.C 4
   have e5 : W2.cell? ⟨w.heap.size,5,none⟩ = some (.slice none 0 0):=bC_ h2.C 5
   have g5:=bF_ h2.C 5
   have e6 : W2.cell? ⟨w.heap.size,6,none⟩ = some (.slice none 0 0):=bC_ h2.C 6
   have g6:=bF_ h2.C 6
   have e7 : W2.cell? ⟨w.heap.size,7,none⟩ = some (.slice none 0 0):=bC_ h2.C 7
   have g7:=bF_ h2.C 7
   have e8 : W2.cell? ⟨w.heap.size,8,none⟩ = some (.slice none 0 0):=bC_ h2.C 8
   have g8:=bF_ h2.C 8
   have e9 : W2.cell? ⟨w.heap.size,9,none⟩ = some (.slice none 0 0):=bC_ h2.C 9
   have g9:=bF_ h2.C 9
   have e10 : W2.cell? ⟨w.heap.size,10,none⟩ = some (.slice none 0 0):=bC_ h2.C 10
   have g10:=bF_ h2.C 10
   have d0:=bC_ h2.F 0
   have d1:=bC_ h2.F 1
   have q0:=bF_ h2.F 0
   have q1:=bF_ h2.F 1
   have h3:=h2.setC (rows_nil W2 w.heap.size)
   dsimp only [nilVS,x0S] at h3
   have h4 : RdS w _ x0S nilVS 0 40:=RdS.setF h3 0 40
   have H4:=A0_.mk h4
   clear h2 h3 h4
   go_wp2
   exact read_early H4.out rfl rfl
 ·rw [if_pos c0]
  have c0b : (code == 0) = false:=beq_eq_false_iff_ne.mpr c0
  have HC0:=A0_.mk c0
  clear c0 hh hs
  go_enter_defers Tryz.func17,Tryz.ntmps17
  go_wp2_with (first|(go_at_call 18;refine HH.out.mono ?_;rintro e w1 ⟨v1,rfl,hr,hb⟩;obtain ⟨A1,n1,rfl⟩:=Kd.R_slice hr;have HRS1:=A0_.mk (HRS.out.below hb);have HR1:=A0_.mk (Kd.R_lower hr HRS.out.be.size);have f0:=bC_ HRS1.out.F 0;have f1:=bC_ HRS1.out.F 1;have q0:=bF_ HRS1.out.F 0;have q1:=bF_ HRS1.out.F 1;clear hr hb))
  have h2:=HRS1.out.setF 0 code
  clear f0 f1 q0 q1
  generalize (w1.setCell ⟨w.heap.size + 1,0,none⟩ (.int .i64 0)).setCell ⟨w.heap.size + 1,1,none⟩ (.int .i64 code) = W2 at h2 ⊢
  have hC0:=h2.C
  have hF0:=h2.F
  have e0 : W2.cell? ⟨w.heap.size,0,none⟩ = some (.int .i64 0):=bC_ hC0 0
  have g0:=bF_ hC0 0
  have e1 : W2.cell? ⟨w.heap.size,1,none⟩ = some (.slice none 0 0):=bC_ hC0 1
  have g1:=bF_ hC0 1
  have e2 : W2.cell? ⟨w.heap.size,2,none⟩ = some (.slice none 0 0):=bC_ hC0 2
  have g2:=bF_ hC0 2
  have e3 : W2.cell? ⟨w.heap.size,3,none⟩ = some (.slice none 0 0):=bC_ hC0 3
  have g3:=bF_ hC0 3
  have e4 : W2.cell? ⟨w.heap.size,4,none⟩ = some (.slice none 0 0):=bC_ hC0 4
  have g4:=bF_ hC0 4
  have e5 : W2.cell? ⟨w.heap.size,5,none⟩ = some (.slice none 0 0):=bC_ hC0 5
  have g5:=bF_ hC0 5
  have e6 : W2.cell? ⟨w.heap.size,6,none⟩ = some (.slice none 0 0):=bC_ hC0 6
  have g6:=bF_ hC0 6
  have e7 : W2.cell? ⟨w.heap.size,7,none⟩ = some (.slice none 0 0):=bC_ hC0 7
  have g7:=bF_ hC0 7
  have e8 : W2.cell? ⟨w.heap.size,8,none⟩ = some (.slice none 0 0):=bC_ hC0 8
  have g8:=bF_ hC0 8
  have e9 : W2.cell? ⟨w.heap.size,9,none⟩ = some (.slice none 0 0):=bC_ hC0 9
  have g9:=bF_ hC0 9
  have e10 : W2.cell? ⟨w.heap.size,10,none⟩ = some (.slice none 0 0):=bC_ hC0 10
  have g10:=bF_ hC0 10
  have l0 : W2.cell? ⟨w.heap.size + 1,0,none⟩ = some (.int .i64 0):=bC_ hF0 0
  have l1 : W2.cell? ⟨w.heap.size + 1,1,none⟩ = some (.int .i64 code):=bC_ hF0 1
  refine wp_normal' ?_
  refine start_ (n:=4) (S:=fun w' => w'.cell? ⟨w.heap.size + 1,0,none⟩ = some (.int .i64 0) ∧ w'.cell? ⟨w.heap.size + 1,1,none⟩ = some (.int .i64 code)) (ds:=[3]) #[false,false,false,false] (by kernel_rfl) rfl rfl ⟨l0,l1⟩ (fun hHeld => ?_)
  refine pure_ (i:=0) (N:=some 22) (v:=?_) (a':=?_) #[true,false,false,false] rfl rfl (by kernel_rfl) (fun _ _ _ h => by cases h.1) (Or.inl ⟨by rfl,?_⟩) ?_ ?_
  rotate_left
  ·intro w'
   go_simp
   with_reducible rfl
  rotate_left
  ·simp only [Act.put,sA_,sB_,sC_]
   rfl
  refine take_ (i:=1) (N:=some 23) (v:=?_) (a':=?_) #[true,true,false,false] rfl rfl (by kernel_rfl) (fun _ _ _ h => by cases h.1) (Or.inl ⟨by rfl,?_⟩) hHeld ?_ ?_
  rotate_left
  ·intro w' s0
   obtain ⟨s0_,s1_⟩:=s0
   go_simp
   with_reducible rfl
  rotate_left
  ·simp only [Act.put,sA_,sB_,sC_]
   rfl
  refine one_ (i:=2) (N:=none) #[true,true,true,false] rfl rfl (by kernel_rfl) (by decide) (fun K hK => ?_)
  refine skip_ (w1:=(((((((((((W2.drew).setCell ⟨w.heap.size,0,none⟩ (.int .i64 0)).setCell ⟨w.heap.size,1,none⟩ (.slice none 0 0)).setCell ⟨w.heap.size,2,none⟩ (.slice none 0 0)).setCell ⟨w.heap.size,3,none⟩ (.slice none 0 0)).setCell ⟨w.heap.size,4,none⟩ (.slice none 0 0)).setCell ⟨w.heap.size,5,none⟩ (.slice none 0 0)).setCell ⟨w.heap.size,6,none⟩ (.slice none 0 0)).setCell ⟨w.heap.size,7,none⟩ (.slice none 0 0)).setCell ⟨w.heap.size,8,none⟩ (.slice none 0 0)).setCell ⟨w.heap.size,9,none⟩ (.slice none 0 0)).setCell ⟨w.heap.size,10,none⟩ (.slice none 0 0)) rfl rfl ?_ ?_
  ·go_simp
  have h3:=(h2.below (below_drew (Below.refl W2.heap.size W2))).setC (rows_nil W2.drew w.heap.size)
  dsimp only [nilVS,x0S] at h3
  have hF3:=h3.F
  refine hK.out _ _ ⟨bC_ hF3 0,bC_ hF3 1⟩ (fun hHeld2 => ?_)
  clear hK K hHeld l0 l1 e0 g0 e1 g1 e2 g2 e3 g3 e4 g4 e5 g5 e6 g6 e7 g7 e8 g8 e9 g9 e10 g10
  generalize (((((((((((W2.drew).setCell ⟨w.heap.size,0,none⟩ (.int .i64 0)).setCell ⟨w.heap.size,1,none⟩ (.slice none 0 0)).setCell ⟨w.heap.size,2,none⟩ (.slice none 0 0)).setCell ⟨w.heap.size,3,none⟩ (.slice none 0 0)).setCell ⟨w.heap.size,4,none⟩ (.slice none 0 0)).setCell ⟨w.heap.size,5,none⟩ (.slice none 0 0)).setCell ⟨w.heap.size,6,none⟩ (.slice none 0 0)).setCell ⟨w.heap.size,7,none⟩ (.slice none 0 0)).setCell ⟨w.heap.size,8,none⟩ (.slice none 0 0)).setCell ⟨w.heap.size,9,none⟩ (.slice none 0 0)).setCell ⟨w.heap.size,10,none⟩ (.slice none 0 0) = W3 at h3 hF3 hHeld2 ⊢
  have d0:=bC_ hF3 0
  have d1:=bC_ hF3 1
  have q0':=bF_ hF3 0
  have q1':=bF_ hF3 1
  refine last_ (i:=3) (N:=none) #[true,true,true,true] rfl rfl (by kernel_rfl) (by decide) (fun K hK => ?_)
  refine skip_ (w1:=(W3.setCell ⟨w.heap.size + 1,0,none⟩ (.int .i64 0)).setCell ⟨w.heap.size + 1,1,none⟩ (.int .i64 code)) rfl rfl ?_ ?_
  ·go_simp
  refine hK.out _ _ ?_
  clear hK K
  have h4 : RdS w _ x0S nilVS 0 code:=RdS.setF h3 (0) (code)
  clear d0 d1 q0' q1' h3 hF3 hHeld2 hC0 hF0
  generalize (W3.setCell ⟨w.heap.size + 1,0,none⟩ (.int .i64 0)).setCell ⟨w.heap.size + 1,1,none⟩ (.int .i64 code) = W4 at h4 ⊢
  refine done_ (by kernel_rfl) ?_
  refine ⟨rfl,?_⟩
  rename_i hKK
  refine hKK _ _ ?_
  have H4:=A0_.mk h4
  clear hKK h4
  go_wp2
  exact read_early H4.out rfl rfl
end Go.Proofs.YtdmngdohlobogaaGreatDoor.Asc

