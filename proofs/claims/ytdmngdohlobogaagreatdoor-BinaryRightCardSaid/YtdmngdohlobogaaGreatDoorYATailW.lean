import Derived.Test.YtdmngdohlobogaaGreatDoorYM7
namespace Go.Proofs.YtdmngdohlobogaaGreatDoor.Asc
open Go Go.RowKit Go.Proofs.YtdmngdohlobogaaGreatDoorW.PrintWords Go.Proofs.YtdmngdohlobogaaGreatDoorW.PrintLast Go.Proofs.YtdmngdohlobogaaGreatDoorW.PrintMore
set_option linter.unusedVariables false
set_option linter.unusedSimpArgs false
def cB : ByteArray:=⟨#[99]⟩
def consS (x : S59) : Except Nat (List S59 × List ByteArray) → Except Nat (List S59 × List ByteArray)
 |.error e => .error e
 |.ok (a,b) => .ok (x :: a,b)
def consC (x : ByteArray) : Except Nat (List S59 × List ByteArray) → Except Nat (List S59 × List ByteArray)
 |.error e => .error e
 |.ok (a,b) => .ok (a,x :: b)
def tailGo (s : ByteArray) : Nat → Nat → Bool → Except Nat (List S59 × List ByteArray)
 |0,p,_ => .error p
 |k + 1,p,noted => if s.size ≤ p then .ok ([],[]) else match lineF s p with
  |none => .error p
  |some (l,q) => if noted = true then consC l (tailGo s k q true) else if l = cB then tailGo s k q true
   else if (symF l).2 = false then .error p else consS (symF l).1 (tailGo s k q false)
def tailF (s : ByteArray) (p : Int) : List S59 × List ByteArray × Int × Int :=
 if 262144 < s.size then ([],[],0,2) else if p < 0 ∨ (s.size : Int) < p then ([],[],0,1)
 else match tailGo s (s.size + 1) p.toNat false with
  |.error e => ([],[],e,42)
  |.ok (a,b) => (a,b,0,0)
def appT (a : List S59) (b : List ByteArray) : Except Nat (List S59 × List ByteArray) → Except Nat (List S59 × List ByteArray)
 |.error e => .error e
 |.ok (x,y) => .ok (a ++ x,b ++ y)
theorem appT_nil (r : Except Nat (List S59 × List ByteArray)) : appT [] [] r = r:=by
 cases r with
 |error e => rfl
 |ok x => rfl
theorem appT_S (a : List S59) (b : List ByteArray) (x : S59) (r : Except Nat (List S59 × List ByteArray)) : appT a b (consS x r) = appT (a ++ [x]) b r:=by
 cases r with
 |error e => rfl
 |ok y => simp [appT,consS]
theorem appT_C (a : List S59) (b : List ByteArray) (x : ByteArray) (r : Except Nat (List S59 × List ByteArray)) : appT a b (consC x r) = appT a (b ++ [x]) r:=by
 cases r with
 |error e => rfl
 |ok y => simp [appT,consC]
def TailEnd (w : World) (r : List S59 × List ByteArray × Int × Int) (e : Ending) (w' : World) : Prop :=
 ∃ v0 v1,e = .returned (.tuple #[v0,v1,.agg #[.int .i64 r.2.2.1,.int .i64 r.2.2.2]]) ∧ Kd.R k59 77 w' w.heap.size (fun _ => True) v0 r.1 ∧ Kd.R Kd.string 9 w' w.heap.size (fun _ => True) v1 r.2.1 ∧ Below w.heap.size w w'
theorem results26 {W : World} {tm : Array Value} {S C F : Nat} {vS vC x y : Value} (h4 : tm.getD 4 undef = .pointer (some ⟨S,0,none⟩)) (h5 : tm.getD 5 undef = .pointer (some ⟨C,0,none⟩)) (h6 : tm.getD 6 undef = .pointer (some ⟨F,0,none⟩))
  (hS : W.heap[S]? = some (.cells #[vS] 26 (0,0))) (hC : W.heap[C]? = some (.cells #[vC] 27 (0,0))) (hF : W.heap[F]? = some (.cells #[x,y] 32 (0,0))) (nS : ∃ A n c,vS = .slice A n c) (nC : ∃ A n c,vC = .slice A n c) :
  (results Tryz.f23 tm).run Tryz.prog W = .ok (.tuple #[vS,vC,.agg #[x,y]]) W:=by
 obtain ⟨A,n,c,rfl⟩:=nS
 obtain ⟨A',n',c',rfl⟩:=nC
 have h4' : (tm[4]?).getD undef = .pointer (some ⟨S,0,none⟩):=by simpa using h4
 have h5' : (tm[5]?).getD undef = .pointer (some ⟨C,0,none⟩):=by simpa using h5
 have h6' : (tm[6]?).getD undef = .pointer (some ⟨F,0,none⟩):=by simpa using h6
 have e0:=bC_ hS 0
 have e1:=bC_ hC 0
 have e2:=bC_ hF 0
 have e3:=bC_ hF 1
 simp [results,Tryz.f23,go_sem,h4',h5',h6',e0,e1,e2,e3]
theorem tail_panic {w W : World} {tm : Array Value} {e : Nat} {vS vC x y : Value} (h4 : tm.getD 4 undef = .pointer (some ⟨w.heap.size,0,none⟩)) (h5 : tm.getD 5 undef = .pointer (some ⟨w.heap.size + 1,0,none⟩)) (h6 : tm.getD 6 undef = .pointer (some ⟨w.heap.size + 1 + 1,0,none⟩))
  (hS : Boxed W w.heap.size 26 vS) (hC : Boxed W (w.heap.size + 1) 27 vC) (hF : W.heap[w.heap.size + 1 + 1]? = some (.cells #[x,y] 32 (0,0))) (hB : Below w.heap.size w W) :
  bodyPostD Tryz.prog Tryz.f23 (TailEnd w ([],[],e,42)) (.panic [{ v:=.iface 32 (faultV e 42),recovered:=false }]) { tmps:=tm,defers:=[{ target:=.fn (.func 55) #[.pointer (some ⟨w.heap.size,0,none⟩),.pointer (some ⟨w.heap.size + 1,0,none⟩),.pointer (some ⟨w.heap.size + 1 + 1,0,none⟩)],args:=#[] }] } W:=by
 show Leaves _ _ _ _ _ _ _
 refine leaves_cons (f:=55) (args:=#[.pointer (some ⟨w.heap.size,0,none⟩),.pointer (some ⟨w.heap.size + 1,0,none⟩),.pointer (some ⟨w.heap.size + 1 + 1,0,none⟩)]) (by simp) (by simp [go_sem]) ?_
 refine (tail_catch w.heap.size (w.heap.size + 1) (w.heap.size + 1 + 1) e 42 [] W vS vC x y hS hC hF).mono ?_
 rintro e' u' w' ⟨rfl,rfl,kS,kC,kF,hb⟩
 refine ⟨_,results26 h4 h5 h6 kS kC kF ⟨_,_,_,rfl⟩ ⟨_,_,_,rfl⟩,_,_,rfl,Kd.R_nil _ _ _ _ _,Kd.R_nil _ _ _ _ _,?_⟩
 exact hB.trans (hb _ (Nat.le_refl _) (by omega) (by omega))
theorem tail_ret {w W : World} {tm : Array Value} {vS vC x y : Value} {a : List S59} {b : List ByteArray} {f c : Int} (hx : x = .int .i64 f) (hy : y = .int .i64 c) (h4 : tm.getD 4 undef = .pointer (some ⟨w.heap.size,0,none⟩)) (h5 : tm.getD 5 undef = .pointer (some ⟨w.heap.size + 1,0,none⟩)) (h6 : tm.getD 6 undef = .pointer (some ⟨w.heap.size + 1 + 1,0,none⟩))
  (hS : Boxed W w.heap.size 26 vS) (hC : Boxed W (w.heap.size + 1) 27 vC) (hF : W.heap[w.heap.size + 1 + 1]? = some (.cells #[x,y] 32 (0,0))) (hA : Kd.R k59 77 W w.heap.size (fun _ => True) vS a) (hBB : Kd.R Kd.string 9 W w.heap.size (fun _ => True) vC b) (hB : Below w.heap.size w W) :
  bodyPostD Tryz.prog Tryz.f23 (TailEnd w (a,b,f,c)) .ret { tmps:=tm,defers:=[{ target:=.fn (.func 55) #[.pointer (some ⟨w.heap.size,0,none⟩),.pointer (some ⟨w.heap.size + 1,0,none⟩),.pointer (some ⟨w.heap.size + 1 + 1,0,none⟩)],args:=#[] }] } W:=by
 subst hx
 subst hy
 show Leaves _ _ _ _ _ _ _
 refine leaves_cons (f:=55) (args:=#[.pointer (some ⟨w.heap.size,0,none⟩),.pointer (some ⟨w.heap.size + 1,0,none⟩),.pointer (some ⟨w.heap.size + 1 + 1,0,none⟩)]) (by simp) (by simp [go_sem]) ?_
 refine (tail_idle ⟨w.heap.size,0,none⟩ ⟨w.heap.size + 1,0,none⟩ ⟨w.heap.size + 1 + 1,0,none⟩ W).mono ?_
 rintro e' u' w' ⟨rfl,rfl,rfl⟩
 obtain ⟨A,n,rfl⟩:=Kd.R_slice hA
 obtain ⟨A',n',rfl⟩:=Kd.R_slice hBB
 exact ⟨_,results26 h4 h5 h6 hS hC hF ⟨_,_,_,rfl⟩ ⟨_,_,_,rfl⟩,_,_,rfl,hA,hBB,hB⟩
theorem KR.boxed {w W : World} {R B : Nat} {t : TypeId} {v : Value} (h : KR w W R) (hb : Boxed w B t v) (hne : B ≠ R) : Boxed W B t v:=(h.kb.2 B hb.lt hne).trans hb
theorem KR.blk {w W : World} {R B : Nat} {o : Obj} (h : KR w W R) (hb : w.heap[B]? = some o) (hne : B ≠ R) : W.heap[B]? = some o:=(h.kb.2 B (blk_lt hb) hne).trans hb
theorem KR.rows {α : Type} {d : Kd α} {e : Nat} {w W : World} {R base : Nat} {v : Value} {xs : List α} (h : KR w W R) (hr : d.R e w base (fun _ => True) v xs) (hR : R < base) : d.R e W base (fun _ => True) v xs :=
 Kd.R_mono (Kd.R_step (Kd.R_bound hr) (fun k hk hlt => h.kb.2 k hlt (by have:=hk.2.1;omega))) (fun _ _ => trivial)
structure TS (w W : World) (s : ByteArray) (pk : Nat) (vS vC : Value) (a : List S59) (b : List ByteArray) : Prop where
 S : Boxed W w.heap.size 26 vS
 C : Boxed W (w.heap.size + 1) 27 vC
 F : W.heap[w.heap.size + 1 + 1]? = some (.cells #[.int .i64 0,.int .i64 0] 32 (0,0))
 R : RD W (w.heap.size + 1 + 1 + 1) s pk
 A : Kd.R k59 77 W (w.heap.size + 4) (fun _ => True) vS a
 B : Kd.R Kd.string 9 W (w.heap.size + 4) (fun _ => True) vC b
 be : Below w.heap.size w W
 sz : w.heap.size + 4 ≤ W.heap.size
theorem TS.kr {w W V : World} {s : ByteArray} {pk q : Nat} {vS vC : Value} {a : List S59} {b : List ByteArray} (h : TS w W s pk vS vC a b) (k : KR W V (w.heap.size + 1 + 1 + 1)) (hr : RD V (w.heap.size + 1 + 1 + 1) s q) : TS w V s q vS vC a b :=
 ⟨k.boxed h.S (by omega),k.boxed h.C (by omega),k.blk h.F (by omega),hr,k.rows h.A (by omega),k.rows h.B (by omega),k.base h.be (by omega),Nat.le_trans h.sz k.kb.1⟩
theorem TS.below {w W V : World} {s : ByteArray} {pk : Nat} {vS vC : Value} {a : List S59} {b : List ByteArray} (h : TS w W s pk vS vC a b) (hb : Below W.heap.size W V) : TS w V s pk vS vC a b :=
 ⟨(hb.block _ h.S.lt).trans h.S,(hb.block _ h.C.lt).trans h.C,(hb.block _ (blk_lt h.F)).trans h.F,h.R.below hb,Kd.R_below h.A hb,Kd.R_below h.B hb,h.be.trans (hb.mono h.be.size),Nat.le_trans h.sz hb.size⟩
theorem TS.setC {w W V : World} {s : ByteArray} {pk : Nat} {vS vC v : Value} {a : List S59} {b b' : List ByteArray} (h : TS w W s pk vS vC a b) (hg : W.grownBy V vC.ownBlock) (hr : Kd.R Kd.string 9 V (w.heap.size + 4) (fun _ => True) v b') : TS w (V.setCell ⟨w.heap.size + 1,0,none⟩ v) s pk vS v a b':=by
 have ne : ∀ k,k < w.heap.size + 4 → some k ≠ vC.ownBlock:=fun k hk e => by have:=Kd.R_base h.B k e.symm;omega
 have hC:=h.C.kept hg (ne _ (by omega))
 exact ⟨(h.S.kept hg (ne _ (by omega))).other (by omega) _,hC.set _,blk_far (blk_grown h.F hg (ne _ (by omega))) (p:=⟨w.heap.size + 1,0,none⟩) (by simp) _,blk_far (h.R.grown hg (ne _ (by omega))) (p:=⟨w.heap.size + 1,0,none⟩) (by simp;omega) _,
  Kd.R_set (Kd.R_over' h.A (Kd.R_typed h.B) (by decide) hg) hC (by decide) 0 _,Kd.R_set hr hC (by decide) 0 _,(h.be.grown hg h.be.size (fun k e => by have:=Kd.R_base h.B k e;omega)).setCell (p:=⟨w.heap.size + 1,0,none⟩) (by simp) _,by simp only [World.size_setCell];exact Nat.le_trans h.sz hg.size⟩
theorem TS.setS {w W V : World} {s : ByteArray} {pk : Nat} {vS vC v : Value} {a a' : List S59} {b : List ByteArray} (h : TS w W s pk vS vC a b) (hg : W.grownBy V vS.ownBlock) (hr : Kd.R k59 77 V (w.heap.size + 4) (fun _ => True) v a') : TS w (V.setCell ⟨w.heap.size,0,none⟩ v) s pk v vC a' b:=by
 have ne : ∀ k,k < w.heap.size + 4 → some k ≠ vS.ownBlock:=fun k hk e => by have:=Kd.R_base h.A k e.symm;omega
 have hS:=h.S.kept hg (ne _ (by omega))
 exact ⟨hS.set _,(h.C.kept hg (ne _ (by omega))).other (by omega) _,blk_far (blk_grown h.F hg (ne _ (by omega))) (p:=⟨w.heap.size,0,none⟩) (by simp;omega) _,blk_far (h.R.grown hg (ne _ (by omega))) (p:=⟨w.heap.size,0,none⟩) (by simp;omega) _,
  Kd.R_set hr hS (by decide) 0 _,Kd.R_set (Kd.R_over' h.B (Kd.R_typed h.A) (by decide) hg) hS (by decide) 0 _,(h.be.grown hg h.be.size (fun k e => by have:=Kd.R_base h.A k e;omega)).setCell (p:=⟨w.heap.size,0,none⟩) (Nat.le_refl _) _,by simp only [World.size_setCell];exact Nat.le_trans h.sz hg.size⟩
theorem TS.setF {w W : World} {s : ByteArray} {pk : Nat} {vS vC : Value} {a : List S59} {b : List ByteArray} (h : TS w W s pk vS vC a b) : TS w ((W.setCell ⟨w.heap.size + 1 + 1,0,none⟩ (.int .i64 0)).setCell ⟨w.heap.size + 1 + 1,1,none⟩ (.int .i64 0)) s pk vS vC a b:=by
 have h1:=blk_set h.F 0 (.int .i64 0)
 refine ⟨blk_far (blk_far h.S (p:=⟨w.heap.size + 1 + 1,0,none⟩) (by simp;omega) _) (p:=⟨w.heap.size + 1 + 1,1,none⟩) (by simp;omega) _,blk_far (blk_far h.C (p:=⟨w.heap.size + 1 + 1,0,none⟩) (by simp) _) (p:=⟨w.heap.size + 1 + 1,1,none⟩) (by simp) _,blk2 h.F _ _,blk_far (blk_far h.R (p:=⟨w.heap.size + 1 + 1,0,none⟩) (by simp) _) (p:=⟨w.heap.size + 1 + 1,1,none⟩) (by simp) _,Kd.R_set (Kd.R_set h.A h.F (by decide) 0 _) h1 (by decide) 1 _,Kd.R_set (Kd.R_set h.B h.F (by decide) 0 _) h1 (by decide) 1 _,(h.be.setCell (p:=⟨w.heap.size + 1 + 1,0,none⟩) (by simp;omega) _).setCell (p:=⟨w.heap.size + 1 + 1,1,none⟩) (by simp;omega) _,by simp only [World.size_setCell];exact h.sz⟩
set_option maxHeartbeats 4000000 in
set_option maxRecDepth 100000 in
theorem tail_calls {w : World} {s : ByteArray} {p : Nat} (hG : GV w) (hp : p ≤ s.size) (hs : s.size ≤ 262144) : Calls Tryz.prog 23 #[.string s,.int .i64 (p : Int)] w (TailEnd w (tailF s p)):=by
 obtain ⟨res,hres⟩ : ∃ res,tailGo s (s.size + 1) p false = res:=⟨_,rfl⟩
 obtain ⟨fin,hfin⟩ : ∃ fin,tailF s p = fin:=⟨_,rfl⟩
 have hfin2:=hfin
 unfold tailF at hfin2
 rw [if_neg (by omega),if_neg (by omega),Int.toNat_natCast,hres] at hfin2
 rw [hfin]
 have HRES:=A0_.mk hres
 have HFIN:=A0_.mk hfin2
 have HG:=A0_.mk hG
 have HP:=A0_.mk hp
 have HS:=A0_.mk hs
 have b1 : decide ((262144 : Int) < (s.size : Int)) = false:=decide_eq_false (by omega)
 have b1' : (s.size : Int) ≤ 262144:=by omega
 have b2 : decide ((s.size : Int) < (p : Int)) = false:=decide_eq_false (by omega)
 have b2' : (p : Int) ≤ (s.size : Int):=by omega
 have b3 : decide ((p : Int) < 0) = false:=decide_eq_false (by omega)
 have hmf : ∀ (fn : Fn) (first cap : Array Value) (w : World),(Instr.makeFunc fn first cap).run Tryz.prog w = .ok (.func fn first cap) w:=fun _ _ _ _ => rfl
 clear hres hfin hfin2 hG hp hs
 go_enter_defers Tryz.func23,Tryz.ntmps23
 go_wp2
 have hS:=Boxed.new w 26 (.slice none 0 0)
 have hC:=Boxed.new (w.alloc (.cells #[.slice none 0 0] 26)) 27 (.slice none 0 0)
 have hF:=blk_new ((w.alloc (.cells #[.slice none 0 0] 26)).alloc (.cells #[.slice none 0 0] 27)) (.cells #[.int .i64 0,.int .i64 0] 32)
 have hR : RD ((((w.alloc (.cells #[.slice none 0 0] 26)).alloc (.cells #[.slice none 0 0] 27)).alloc (.cells #[.int .i64 0,.int .i64 0] 32)).alloc (.cells #[.string s,.int .i64 (p : Int)] 88)) (w.heap.size + 1 + 1 + 1) s p:=by
  have h:=blk_new (((w.alloc (.cells #[.slice none 0 0] 26)).alloc (.cells #[.slice none 0 0] 27)).alloc (.cells #[.int .i64 0,.int .i64 0] 32)) (.cells #[.string s,.int .i64 (p : Int)] 88)
  simp only [World.size_alloc] at h
  exact h
 simp only [World.size_alloc] at hC hF
 have hS:=((hS.alloc (.cells #[.slice none 0 0] 27)).alloc (.cells #[.int .i64 0,.int .i64 0] 32)).alloc (.cells #[.string s,.int .i64 (p : Int)] 88)
 have hC:=(hC.alloc (.cells #[.int .i64 0,.int .i64 0] 32)).alloc (.cells #[.string s,.int .i64 (p : Int)] 88)
 have hF:=bA_ hF (.cells #[.string s,.int .i64 (p : Int)] 88)
 have hB : Below w.heap.size w ((((w.alloc (.cells #[.slice none 0 0] 26)).alloc (.cells #[.slice none 0 0] 27)).alloc (.cells #[.int .i64 0,.int .i64 0] 32)).alloc (.cells #[.string s,.int .i64 (p : Int)] 88)):=eA_ (eA_ (eA_ (eA_ (Below.refl _ _) _) _) _) _
 have hsz : w.heap.size + 4 ≤ ((((w.alloc (.cells #[.slice none 0 0] 26)).alloc (.cells #[.slice none 0 0] 27)).alloc (.cells #[.int .i64 0,.int .i64 0] 32)).alloc (.cells #[.string s,.int .i64 (p : Int)] 88)).heap.size:=by simp
 have HT0:=A0_.mk (show TS w _ s p _ _ [] [] from ⟨hS,hC,hF,hR,Kd.R_nil _ _ _ _ _,Kd.R_nil _ _ _ _ _,hB,hsz⟩)
 clear hS hC hF hR hB hsz
 generalize ((((w.alloc (.cells #[.slice none 0 0] 26)).alloc (.cells #[.slice none 0 0] 27)).alloc (.cells #[.int .i64 0,.int .i64 0] 32)).alloc (.cells #[.string s,.int .i64 (p : Int)] 88)) = W0 at HT0 ⊢
 clear b1 b2 b3
 (try simp only [Act.put,sA_,sB_,sC_])
 go_loopg [8] (s.size + 1) (fun kq v8 w' => ∃ (noted : Bool) (pk : Nat) (a : List S59) (b : List ByteArray) (vS vC : Value),v8 = .bool noted ∧ A0_ (s.size + 1 ≤ kq + pk) ∧ A0_ (pk ≤ s.size) ∧ A0_ (a.length + b.length ≤ pk) ∧ A0_ (appT a b (tailGo s kq pk noted) = res) ∧ A0_ (TS w w' s pk vS vC a b))
 case atStart => exact ⟨false,p,[],[],_,_,rfl,⟨by omega⟩,HP,⟨Nat.zero_le _⟩,⟨by rw [appT_nil];exact HRES.out⟩,HT0⟩
 case round =>
  clear HRES HT0 HP b2'
  obtain ⟨noted,pk,a,b,vS,vC,rfl,HK,HP,HAB,HRES,HT⟩:=hrel
  obtain ⟨AS,nS,rfl⟩:=Kd.R_slice HT.out.A
  obtain ⟨AC,nC,rfl⟩:=Kd.R_slice HT.out.B
  have c1 : wr.cell? ⟨w.heap.size + 1 + 1 + 1,1,none⟩ = some (.int .i64 (pk : Int)):=bC_ HT.out.R 1
  by_cases ce : pk < s.size
  ·have ceb : decide ((pk : Int) < (s.size : Int)) = true:=decide_eq_true (by omega)
   obtain ⟨g1,rfl⟩ : ∃ g1,gk = g1 + 1:=by
    cases gk with
    |zero => have:=HK.out;omega
    |succ g1 => exact ⟨g1,rfl⟩
   have hr:=HRES.out
   rw [tailGo,if_neg (by omega)] at hr
   cases hl : lineF s pk with
   |none =>
    rw [hl] at hr
    have hC:=line_no HT.out.R HP.out HS.out hl
    unfold thrown at hC
    have HC:=A0_.mk hC
    have hf:=HFIN.out
    rw [← hr] at hf
    dsimp only [appT] at hf
    subst hf
    clear hl hr HRES hC HFIN
    go_wp2_with (go_at_call 56;refine HC.out.mono ?_;rintro e w1 ⟨rfl,hb⟩)
    have hT:=HT.out.below hb
    exact tail_panic rfl rfl rfl hT.S hT.C hT.F hT.be
   |some lq =>
    obtain ⟨l,q⟩:=lq
    rw [hl] at hr
    dsimp only at hr
    have hls:=lineF_size HP.out hl
    have HLS:=A0_.mk hls
    have HC:=A0_.mk (line_yes HT.out.R HP.out HS.out hl)
    clear hl hls
    cases noted with
    |true =>
     rw [if_pos rfl,appT_C] at hr
     have HRES2:=A0_.mk hr
     clear hr HRES
     go_upto_region 18 with (first|(go_at_call 56;refine HC.out.mono ?_;rintro e w1 ⟨rfl,hrd,hkr⟩;have HT1:=A0_.mk (HT.out.kr hkr hrd);clear hrd hkr;have cS:=HT1.out.S.cell;have cC:=HT1.out.C.cell;have fS:=HT1.out.S.frozen;have fC:=HT1.out.C.frozen)|(at_builtin;refine Kd.R_append Kd.string (w0:=w1) (w.heap.size + 4) rfl (.tmp 45) (.tmp 47) 27 9 (.string ⟨#[]⟩) 16 rfl Tryz.underlying27 info9 rfl (by decide) (by decide) _ b l [.string l] (fun _ => True) (fun _ => False) rfl rfl rfl (fun _ h => h.elim) (fun _ _ => trivial) HT1.out.B (Below.refl _ _) HT1.out.sz (by have:=HAB.out;have:=HP.out;have:=HS.out;omega) ?_;intro v3 w3 hr3 hb3 hg3 hat3;obtain ⟨A3,n3,rfl⟩:=Kd.R_slice hr3;simp only [List.length_append,List.length_cons,List.length_nil,Nat.zero_add] at hr3;have HT3:=A0_.mk (HT1.out.setC hg3 hr3);have HB3:=A0_.mk (HT1.out.C.kept hg3 (fun e => by have:=Kd.R_base HT1.out.B _ e.symm;omega));clear hr3 hb3 hg3 hat3;have eC:=HB3.out.cell;have gC:=HB3.out.frozen))
     go_roundg g1
     case measure => omega
     case rel => exact ⟨true,q,a,b ++ [l],_,_,rfl,⟨by have:=HK.out;have:=HLS.out;omega⟩,⟨HLS.out.2.2.1⟩,⟨by have:=HAB.out;have:=HLS.out;simp;omega⟩,HRES2,HT3⟩
    |false =>
    rw [if_neg (by decide)] at hr
    by_cases hcB : l = cB
    ·rw [if_pos hcB] at hr
     have HRES2:=A0_.mk hr
     subst hcB
     unfold cB at HC
     clear hr HRES
     go_wp2_with (first|(go_at_call 56;refine HC.out.mono ?_;rintro e w1 ⟨rfl,hrd,hkr⟩;have HT1:=A0_.mk (HT.out.kr hkr hrd);clear hrd hkr;have cS:=HT1.out.S.cell;have cC:=HT1.out.C.cell;have fS:=HT1.out.S.frozen;have fC:=HT1.out.C.frozen))
     go_roundg g1
     case measure => omega
     case rel => exact ⟨true,q,a,b,_,_,rfl,⟨by have:=HK.out;have:=HLS.out;omega⟩,⟨HLS.out.2.2.1⟩,⟨by have:=HAB.out;have:=HLS.out;omega⟩,HRES2,HT1⟩
    ·rw [if_neg hcB] at hr
     have hcb : (l.toList == [99]) = false:=by
      refine beq_eq_false_iff_ne.mpr (fun h => hcB ?_)
      have h2 : l.data.toList = [99]:=by rw [← Lib.toList_data];exact h
      cases l with
      |mk d =>
       cases d with
       |mk x =>
        have h3 : x = [99]:=h2
        subst h3
        rfl
     obtain ⟨x,ok,hsy⟩ : ∃ x ok,symF l = (x,ok):=⟨_,_,rfl⟩
     rw [hsy] at hr
     dsimp only at hr
     have HSY:=A0_.mk hsy
     clear hsy hcB
     cases ok with
     |false =>
      rw [if_pos rfl] at hr
      have hf:=HFIN.out
      rw [← hr] at hf
      dsimp only [appT] at hf
      subst hf
      clear hr HRES HFIN
      go_wp2_with (first|(go_at_call 56;refine HC.out.mono ?_;rintro e w1 ⟨rfl,hrd,hkr⟩;have HT1:=A0_.mk (HT.out.kr hkr hrd);clear hrd hkr;have cS:=HT1.out.S.cell;have cC:=HT1.out.C.cell;have fS:=HT1.out.S.frozen;have fC:=HT1.out.C.frozen)|(go_at_call 57;refine (sym_calls l w1 (GV_below HG.out HT1.out.be) (by have:=HLS.out;have:=HS.out;omega)).mono ?_;unfold SymEnd;rw [HSY.out];rintro e w2 ⟨rfl,hb⟩;clear cS cC fS fC;have HT2:=A0_.mk (HT1.out.below hb);clear hb;have cS:=HT2.out.S.cell;have cC:=HT2.out.C.cell;have fS:=HT2.out.S.frozen;have fC:=HT2.out.C.frozen)|(go_at_call 58;refine (give_calls _ _ _ _).mono ?_;rintro e w4 ⟨rfl,rfl⟩))
      have hT:=HT2.out.below (eA_ (Below.refl _ _) (.cells #[.int .u8 x.f0,.int .i64 x.f1,.string x.f2] 77))
      exact tail_panic rfl rfl rfl hT.S hT.C hT.F hT.be
     |true =>
      rw [if_neg (by decide),appT_S] at hr
      have HRES2:=A0_.mk hr
      clear hr HRES
      go_upto_region 18 with (first|(go_at_call 56;refine HC.out.mono ?_;rintro e w1 ⟨rfl,hrd,hkr⟩;have HT1:=A0_.mk (HT.out.kr hkr hrd);clear hrd hkr;have cS:=HT1.out.S.cell;have cC:=HT1.out.C.cell;have fS:=HT1.out.S.frozen;have fC:=HT1.out.C.frozen)|(go_at_call 57;refine (sym_calls l w1 (GV_below HG.out HT1.out.be) (by have:=HLS.out;have:=HS.out;omega)).mono ?_;unfold SymEnd;rw [HSY.out];rintro e w2 ⟨rfl,hb⟩;clear cS cC fS fC;have HT2:=A0_.mk (HT1.out.below hb);clear hb;have cS:=HT2.out.S.cell;have cC:=HT2.out.C.cell;have fS:=HT2.out.S.frozen;have fC:=HT2.out.C.frozen))
      have hx:=blk_new w2 (.cells #[.int .u8 x.f0,.int .i64 x.f1,.string x.f2] 77)
      have HT3:=A0_.mk (HT2.out.below (eA_ (Below.refl _ _) (.cells #[.int .u8 x.f0,.int .i64 x.f1,.string x.f2] 77)))
      clear cS cC fS fC
      generalize w2.heap.size = g8 at hx ⊢
      generalize w2.alloc (.cells #[.int .u8 x.f0,.int .i64 x.f1,.string x.f2] 77) = w3 at hx HT3 ⊢
      have y0:=bC_ hx 0
      have y1:=bC_ hx 1
      have y2:=bC_ hx 2
      have cS:=HT3.out.S.cell
      have fS:=HT3.out.S.frozen
      clear hx
      go_wp2_with (first|(at_builtin;refine Kd.R_append k59 (w0:=w3) (w.heap.size + 4) rfl (.tmp 61) (.tmp 63) 26 77 (.agg #[(.int .u8 0),(.int .i64 0),(.string ⟨#[]⟩)]) 32 rfl Tryz.underlying26 info59 rfl (by decide) (by decide) _ a x [.int .u8 x.f0,.int .i64 x.f1,.string x.f2] (fun _ => True) (fun _ => False) rfl rfl (k59_mkM _ _ _ x) (fun _ h => h.elim) (fun _ _ => trivial) HT3.out.A (Below.refl _ _) HT3.out.sz (by have:=HAB.out;have:=HP.out;have:=HS.out;omega) ?_;intro v3 w5 hr3 hb3 hg3 hat3;obtain ⟨A3,n3,rfl⟩:=Kd.R_slice hr3;simp only [List.length_append,List.length_cons,List.length_nil,Nat.zero_add] at hr3;have HT5:=A0_.mk (HT3.out.setS hg3 hr3);have HB3:=A0_.mk (HT3.out.S.kept hg3 (fun e => by have:=Kd.R_base HT3.out.A _ e.symm;omega));clear hr3 hb3 hg3 hat3;have eC:=HB3.out.cell;have gC:=HB3.out.frozen))
      go_roundg g1
      case measure => omega
      case rel => exact ⟨false,q,a ++ [x],b,_,_,rfl,⟨by have:=HK.out;have:=HLS.out;omega⟩,⟨HLS.out.2.2.1⟩,⟨by have:=HAB.out;have:=HLS.out;simp;omega⟩,HRES2,HT5⟩
  ·have ceb : decide ((pk : Int) < (s.size : Int)) = false:=decide_eq_false (by omega)
   obtain ⟨g1,rfl⟩ : ∃ g1,gk = g1 + 1:=by
    cases gk with
    |zero => have:=HK.out;have:=HP.out;omega
    |succ g1 => exact ⟨g1,rfl⟩
   have hr:=HRES.out
   rw [tailGo,if_pos (by omega)] at hr
   have hf:=HFIN.out
   rw [← hr] at hf
   simp only [appT,List.append_nil] at hf
   subst hf
   clear hr HRES HFIN
   have cS:=HT.out.S.cell
   have cC:=HT.out.C.cell
   have fS:=HT.out.S.frozen
   have fC:=HT.out.C.frozen
   have cF0:=bC_ HT.out.F 0
   have cF1:=bC_ HT.out.F 1
   have fF0:=bF_ HT.out.F 0
   have fF1:=bF_ HT.out.F 1
   go_wp2
   refine wp_normal' ?_
   refine start_ (n:=6) (S:=fun w' => w'.cell? ⟨w.heap.size,0,none⟩ = some (.slice AS a.length nS) ∧ w'.cell? ⟨w.heap.size + 1,0,none⟩ = some (.slice AC b.length nC)) (ds:=[4,5]) (Array.replicate 6 false) (by kernel_rfl) rfl rfl ⟨cS,cC⟩ (fun hHeld => ?_)
   refine take_ (i:=0) (N:=some 65) (v:=?_) (a':=?_) (zA_ 6 1) rfl rfl (by kernel_rfl) (fun _ _ _ h => by cases h.1) (Or.inl ⟨by rfl,?_⟩) hHeld ?_ ?_
   rotate_left
   ·intro w' s0
    obtain ⟨s0_,s1_⟩:=s0
    go_simp
    with_reducible rfl
   rotate_left
   ·simp only [Act.put,sA_,sB_,sC_]
    rfl
   refine take_ (i:=1) (N:=some 66) (v:=?_) (a':=?_) (zA_ 6 3) rfl rfl (by kernel_rfl) (fun _ _ _ h => by cases h.1) (Or.inl ⟨by rfl,?_⟩) hHeld ?_ ?_
   rotate_left
   ·intro w' s0
    obtain ⟨s0_,s1_⟩:=s0
    go_simp
    with_reducible rfl
   rotate_left
   ·simp only [Act.put,sA_,sB_,sC_]
    rfl
   refine pure_ (i:=2) (N:=some 67) (v:=?_) (a':=?_) (zA_ 6 7) rfl rfl (by kernel_rfl) (fun _ _ _ h => by cases h.1) (Or.inl ⟨by rfl,?_⟩) ?_ ?_
   rotate_left
   ·intro w'
    go_simp
    with_reducible rfl
   rotate_left
   ·simp only [Act.put,sA_,sB_,sC_]
    rfl
   refine one_ (i:=3) (N:=none) (zA_ 6 15) rfl rfl (by kernel_rfl) (by decide) (fun K hK => ?_)
   refine skip_ (w1:=wr.drew.setCell ⟨w.heap.size,0,none⟩ (.slice AS a.length nS)) rfl rfl ?_ ?_
   ·go_simp
   refine hK.out _ _ ⟨(HT.out.S.set _).cell,(HT.out.C.other (B':=w.heap.size) (by omega) _).cell⟩ (fun hHeld2 => ?_)
   clear hK K
   refine last_ (i:=4) (N:=none) (zA_ 6 31) rfl rfl (by kernel_rfl) (by decide) (fun K hK => ?_)
   refine skip_ (w1:=(wr.drew.setCell ⟨w.heap.size,0,none⟩ (.slice AS a.length nS)).setCell ⟨w.heap.size + 1,0,none⟩ (.slice AC b.length nC)) rfl rfl ?_ ?_
   ·go_simp
   refine hK.out _ _ ?_
   clear hK K
   refine last_ (i:=5) (N:=none) (zA_ 6 63) rfl rfl (by kernel_rfl) (by decide) (fun K hK => ?_)
   refine skip_ (w1:=(((wr.drew.setCell ⟨w.heap.size,0,none⟩ (.slice AS a.length nS)).setCell ⟨w.heap.size + 1,0,none⟩ (.slice AC b.length nC)).setCell ⟨w.heap.size + 1 + 1,0,none⟩ (.int .i64 0)).setCell ⟨w.heap.size + 1 + 1,1,none⟩ (.int .i64 0)) rfl rfl ?_ ?_
   ·go_simp
   refine hK.out _ _ ?_
   clear hK K
   refine done_ (by kernel_rfl) ?_
   refine ⟨rfl,?_⟩
   have hT:=HT.out.below (below_drew (Below.refl _ _))
   have hT1 : TS w (wr.drew.setCell ⟨w.heap.size,0,none⟩ (.slice AS a.length nS)) s pk _ _ a b:=hT.setS (World.grownBy.refl _ _) hT.A
   have hT2 : TS w ((wr.drew.setCell ⟨w.heap.size,0,none⟩ (.slice AS a.length nS)).setCell ⟨w.heap.size + 1,0,none⟩ (.slice AC b.length nC)) s pk _ _ a b:=hT1.setC (World.grownBy.refl _ _) hT1.B
   have hV : TS w (((((wr.drew.setCell ⟨w.heap.size,0,none⟩ (.slice AS a.length nS)).setCell ⟨w.heap.size + 1,0,none⟩ (.slice AC b.length nC))).setCell ⟨w.heap.size + 1 + 1,0,none⟩ (.int .i64 0)).setCell ⟨w.heap.size + 1 + 1,1,none⟩ (.int .i64 0)) s pk (.slice AS a.length nS) (.slice AC b.length nC) a b:=hT2.setF
   rename_i hKK
   refine hKK _ _ ?_
   clear hT hT1 hT2 hHeld hHeld2 hKK HT cS cC fS fC cF0 cF1 fF0 fF1 c1
   generalize ((((wr.drew.setCell ⟨w.heap.size,0,none⟩ (.slice AS a.length nS)).setCell ⟨w.heap.size + 1,0,none⟩ (.slice AC b.length nC))).setCell ⟨w.heap.size + 1 + 1,0,none⟩ (.int .i64 0)).setCell ⟨w.heap.size + 1 + 1,1,none⟩ (.int .i64 0) = V at hV ⊢
   have hA:=Kd.R_lower hV.A (Nat.le_add_right _ 4)
   have hB:=Kd.R_lower hV.B (Nat.le_add_right _ 4)
   have HV:=A0_.mk hV
   have HA:=A0_.mk hA
   have HBB:=A0_.mk hB
   clear hV hA hB
   go_wp2
   exact tail_ret rfl rfl rfl rfl rfl HV.out.S HV.out.C HV.out.F HA.out HBB.out HV.out.be
end Go.Proofs.YtdmngdohlobogaaGreatDoor.Asc

