import Derived.Test.YtdmngdohlobogaaGreatDoorYBGet
import Derived.Test.YtdmngdohlobogaaGreatDoorYM30
import Derived.WalkMore
namespace Go.Proofs.YtdmngdohlobogaaGreatDoor.Asc
open Go Go.RowKit Go.Proofs.YtdmngdohlobogaaGreatDoorW.PrintWords Go.Proofs.YtdmngdohlobogaaGreatDoorW.PrintLast Go.Proofs.YtdmngdohlobogaaGreatDoorW.PrintMore
set_option linter.unusedVariables false
set_option linter.unusedSimpArgs false
attribute [local go_sem high] eqA40
def JumpTo (J : Nat → Act → World → Prop) (Q : Exit → Act → World → Prop) (e : Exit) (a : Act) (w : World) : Prop:=match e with
 |.goto l => J l a w
 |.normal => Q .normal a w
 |.exit i => Q (.exit i) a w
 |.ret => Q .ret a w
 |.panic ch => Q (.panic ch) a w
 |.outgrown => Q .outgrown a w
theorem JumpTo.mono {J J' : Nat → Act → World → Prop} {Q : Exit → Act → World → Prop} {e : Exit} {a : Act} {w : World} (h : ∀ l,J l a w → J' l a w) (hj : JumpTo J Q e a w) : JumpTo J' Q e a w:=by
 cases e <;> first|exact h _ hj|exact hj
theorem scope_jumps {P : Program} {Q : Exit → Act → World → Prop} {c first : Code} {a : Act} {w : World} (J : Nat → Nat → Act → World → Prop) (l0 : Nat) (hf : findLabel c l0 = some (Code.skip.seq first))
  (pass0 : ∀ m l a w,J m l a w → ∃ rest,findLabel c l = some (Code.skip.seq rest) ∧ rest.wp P (JumpTo (fun l' a' w' => ∃ m',m' < m ∧ J m' l' a' w') Q) a w)
  (start : (∀ m a w,J m l0 a w → first.wp P (JumpTo (fun l' a' w' => ∃ m',J m' l' a' w') Q) a w) → c.wp P (JumpTo (fun l' a' w' => ∃ m',J m' l' a' w') Q) a w) : (Code.scope c).wp P Q a w:=by
 have pass : ∀ m l a w,J m l a w → ∃ rest,findLabel c l = some rest ∧ rest.wp P (JumpTo (fun l' a' w' => ∃ m',m' < m ∧ J m' l' a' w') Q) a w:=fun m l a w h => by
  obtain ⟨rest,h1,h2⟩:=pass0 m l a w h
  exact ⟨_,h1,wp_seq (wp_skip h2)⟩
 intro b k cs
 have land : ∀ l rest,findLabel c l = some rest → gotoIn l (.inScope c :: k) = some (.code rest :: .inScope c :: k):=fun l rest h => by simp [gotoIn,h]
 have outward : ∀ m l a w,J m l a w → ∀ rest,findLabel c l = some rest → ∃ e a' w',Q e a' w' ∧ Arrives P (lone (b.at a (.code rest :: .inScope c :: k)) cs w) b k cs e a' w':=by
  intro m
  induction m using Nat.strongRecOn with
  |_ m ih =>
   intro l a w hJ rest hr
   obtain ⟨rest',hr',hw⟩:=pass m l a w hJ
   rw [hr] at hr'
   cases hr'
   obtain ⟨e,a₁,w₁,hq,hs⟩:=hw b (.inScope c :: k) cs
   match e,hq,hs with
   |.goto l',hq,hs =>
    obtain ⟨m',hlt,hJ'⟩:=hq
    obtain ⟨rest₂,hr₂,_⟩:=pass m' l' a₁ w₁ hJ'
    obtain ⟨e₂,a₂,w₂,hq₂,hs₂⟩:=ih m' hlt l' a₁ w₁ hJ' rest₂ hr₂
    exact ⟨e₂,a₂,w₂,hq₂,.of_steps (hs _ (land l' rest₂ hr₂)) hs₂⟩
   |.normal,hq,hs => exact ⟨.normal,a₁,w₁,hq,Steps.trans hs (.one step_inScope)⟩
   |.exit i,hq,hs => exact ⟨.exit i,a₁,w₁,hq,fun k' hk => hs k' (by simp [exitTo,hk])⟩
   |.ret,hq,hs => exact ⟨_,a₁,w₁,hq,hs⟩
   |.panic ch,hq,hs => exact ⟨_,a₁,w₁,hq,hs⟩
   |.outgrown,hq,hs => exact ⟨_,a₁,w₁,hq,hs⟩
 have body : ∀ m a w,J m l0 a w → first.wp P (JumpTo (fun l' a' w' => ∃ m',J m' l' a' w') Q) a w:=by
  intro m a w hJ b' k' cs'
  obtain ⟨rest,hr,hw⟩:=pass0 m l0 a w hJ
  rw [hf] at hr
  cases hr
  obtain ⟨e,a₁,w₁,hq,hs⟩:=hw b' k' cs'
  exact ⟨e,a₁,w₁,JumpTo.mono (fun l ⟨m',_,hj⟩ => ⟨m',hj⟩) hq,hs⟩
 obtain ⟨e,a₁,w₁,hq,hs⟩:=start body b (.inScope c :: k) cs
 match e,hq,hs with
 |.goto l',hq,hs =>
  obtain ⟨m',hJ'⟩:=hq
  obtain ⟨rest₂,hr₂,_⟩:=pass m' l' a₁ w₁ hJ'
  obtain ⟨e₂,a₂,w₂,hq₂,hs₂⟩:=outward m' l' a₁ w₁ hJ' rest₂ hr₂
  exact ⟨e₂,a₂,w₂,hq₂,.of_steps (.head step_scope (hs _ (land l' rest₂ hr₂))) hs₂⟩
 |.normal,hq,hs => exact ⟨.normal,a₁,w₁,hq,.head step_scope (Steps.trans hs (.one step_inScope))⟩
 |.exit i,hq,hs => exact ⟨.exit i,a₁,w₁,hq,fun k' hk => .head step_scope (hs k' (by simp [exitTo,hk]))⟩
 |.ret,hq,hs => exact ⟨_,a₁,w₁,hq,.of_steps (.one step_scope) hs⟩
 |.panic ch,hq,hs => exact ⟨_,a₁,w₁,hq,.of_steps (.one step_scope) hs⟩
 |.outgrown,hq,hs => exact ⟨_,a₁,w₁,hq,.of_steps (.one step_scope) hs⟩
def gatesB (s : ByteArray) : Nat → Nat → Nat → Except Nat (List S125 × Nat)
 |_,0,p => .ok ([],p)
 |a,m + 1,p => match getW s p with
  |none => .error p
  |some (x,q) => if x = 0 ∨ 2 * (a + 1) < x then .error p else match getW s q with
   |none => .error q
   |some (y,r) => if 2 * (a + 1) - x < y then .error q else match gatesB s (a + 1) m r with
    |.error e => .error e
    |.ok (l,t) => .ok (⟨2 * ((a : Int) + 1),2 * ((a : Int) + 1) - (x : Int),2 * ((a : Int) + 1) - (x : Int) - (y : Int)⟩ :: l,t)
def GateEndB (w : World) (R : Nat) (s : ByteArray) (r : Except Nat (List S125 × Nat)) (e : Ending) (w' : World) : Prop:=match r with
 |.error x => ∃ v l q,e = .returned v ∧ Kd.R k125 75 w' w.heap.size (fun _ => True) v l ∧ SD w' R s q (x : Int) ∧ KR w w' R
 |.ok (l,q) => ∃ v,e = .returned v ∧ Kd.R k125 75 w' w.heap.size (fun _ => True) v l ∧ SD w' R s q (-1) ∧ KR w w' R
theorem getV_form (k : Nat) (r : Option (Nat × Nat)) : ∃ x e c d : Int,GetV k r = .tuple #[.int .i64 x,.int .i64 e,.agg #[.int .i64 c,.int .i64 d]] ∧ ((r = none ∧ x = 0 ∧ e = 0 ∧ c = (k : Int) ∧ d = 20) ∨ (∃ n q : Nat,r = some (n,q) ∧ x = (n : Int) ∧ e = (q : Int) ∧ c = 0 ∧ d = 0)):=by
 cases r with
 |none => exact ⟨_,_,_,_,rfl,.inl ⟨rfl,rfl,rfl,rfl,rfl⟩⟩
 |some nq => exact ⟨_,_,_,_,rfl,.inr ⟨nq.1,nq.2,rfl,rfl,rfl,rfl,rfl⟩⟩
structure GS (w w' : World) (R g : Nat) (s : ByteArray) (pk : Nat) (O L Y : Int) (v : Value) (acc : List S125) : Prop where
 kr : KR w w' R
 sd : SD w' R s pk (-1)
 row : Kd.R k125 75 w' w.heap.size (fun k => k ≠ R ∧ k < g) v acc
 blk : w'.heap[g]? = some (.cells #[.int .i64 O,.int .i64 L,.int .i64 Y] 75 (0,0))
 rw_ : R < w.heap.size
 wg : w.heap.size ≤ g
theorem GS.below {w W V : World} {R g pk : Nat} {s : ByteArray} {O L Y : Int} {v : Value} {acc : List S125} (h : GS w W R g s pk O L Y v acc) (hb : Below W.heap.size W V) : GS w V R g s pk O L Y v acc :=
 ⟨h.kr.trans (KR.below (Nat.le_trans (Nat.le_of_lt h.rw_) h.kr.kb.1) hb),h.sd.below hb,Kd.R_below h.row hb,(hb.block g (blk_lt h.blk)).trans h.blk,h.rw_,h.wg⟩
theorem GS.far {w W : World} {R g pk : Nat} {s : ByteArray} {O L Y : Int} {v : Value} {acc : List S125} (h : GS w W R g s pk O L Y v acc) {z : Nat} (hz : g < z) (j : Nat) (u : Value) : GS w (W.setCell ⟨z,j,none⟩ u) R g s pk O L Y v acc :=
 ⟨KR.setCell h.kr (Nat.le_trans h.wg (Nat.le_of_lt hz)) (by have:=h.rw_;have:=h.wg;omega) j u,blk_far h.sd (p:=⟨z,j,none⟩) (by have:=h.rw_;have:=h.wg;show R ≠ z;omega) u,Kd.R_far h.row (p:=⟨z,j,none⟩) (fun k hk => by have:=hk.2;show k ≠ z;omega) u,blk_far h.blk (p:=⟨z,j,none⟩) (Nat.ne_of_lt hz) u,h.rw_,h.wg⟩
theorem GS.left {w W : World} {R g pk : Nat} {s : ByteArray} {O L Y : Int} {v : Value} {acc : List S125} (h : GS w W R g s pk O L Y v acc) (x : Int) : GS w (W.setCell ⟨g,1,none⟩ (.int .i64 x)) R g s pk O x Y v acc :=
 ⟨KR.setCell h.kr h.wg (by have:=h.rw_;have:=h.wg;omega) 1 _,blk_far h.sd (p:=⟨g,1,none⟩) (by have:=h.rw_;have:=h.wg;show R ≠ g;omega) _,Kd.R_far h.row (p:=⟨g,1,none⟩) (fun k hk => Nat.ne_of_lt hk.2) _,blk_put h.blk 1 _ rfl,h.rw_,h.wg⟩
theorem GS.right {w W : World} {R g pk : Nat} {s : ByteArray} {O L Y : Int} {v : Value} {acc : List S125} (h : GS w W R g s pk O L Y v acc) (x : Int) : GS w (W.setCell ⟨g,2,none⟩ (.int .i64 x)) R g s pk O L x v acc :=
 ⟨KR.setCell h.kr h.wg (by have:=h.rw_;have:=h.wg;omega) 2 _,blk_far h.sd (p:=⟨g,2,none⟩) (by have:=h.rw_;have:=h.wg;show R ≠ g;omega) _,Kd.R_far h.row (p:=⟨g,2,none⟩) (fun k hk => Nat.ne_of_lt hk.2) _,blk_put h.blk 2 _ rfl,h.rw_,h.wg⟩
theorem GS.place {w W : World} {R g pk : Nat} {s : ByteArray} {O L Y : Int} {v : Value} {acc : List S125} (h : GS w W R g s pk O L Y v acc) (q : Nat) : GS w (W.setCell ⟨R,1,none⟩ (.int .i64 (q : Int))) R g s q O L Y v acc :=
 ⟨h.kr.trans (KR.set W R 1 _),h.sd.at_ q,Kd.R_far h.row (p:=⟨R,1,none⟩) (fun k hk => hk.1) _,blk_far h.blk (p:=⟨R,1,none⟩) (by have:=h.rw_;have:=h.wg;show g ≠ R;omega) _,h.rw_,h.wg⟩
theorem JumpTo.ret {J : Nat → Act → World → Prop} {Q : Exit → Act → World → Prop} {a : Act} {w : World} (h : Q .ret a w) : JumpTo J Q .ret a w:=h
theorem JumpTo.jump {J : Nat → Act → World → Prop} {Q : Exit → Act → World → Prop} {l : Nat} {a : Act} {w : World} (h : J l a w) : JumpTo J Q (.goto l) a w:=h
theorem gatesB_step {s : ByteArray} {a m p x q y r : Nat} (h1 : getW s p = some (x,q)) (h0 : ¬ (x = 0 ∨ 2 * (a + 1) < x)) (h2 : getW s q = some (y,r)) (h3 : ¬ 2 * (a + 1) - x < y) : gatesB s a (m + 1) p = appOk [⟨2 * ((a : Int) + 1),2 * ((a : Int) + 1) - (x : Int),2 * ((a : Int) + 1) - (x : Int) - (y : Int)⟩] (gatesB s (a + 1) m r):=by
 rw [gatesB,h1]
 dsimp only
 rw [if_neg h0,h2]
 dsimp only
 rw [if_neg h3]
 cases gatesB s (a + 1) m r with
 |error e => rfl
 |ok y => rfl
theorem keep_below {W V : World} {z : Nat} {o : Obj} (h : W.heap[z]? = some o) (hb : Below W.heap.size W V) : V.heap[z]? = some o:=(hb.block z (blk_lt h)).trans h
set_option maxRecDepth 100000 in
def JG (w : World) (R a0 n : Nat) (s : ByteArray) (res : Except Nat (List S125 × Nat)) (m l : Nat) (a : Act) (w' : World) : Prop:=match l with
 |0 => ∃ (f : Nat → Value) (v7 v8 : Value) (k : Nat) (acc : List S125) (pk : Nat),a = { tmps:=List.toArray (.pointer (some ⟨R,0,none⟩) :: .int .i64 (a0 : Int) :: .int .i64 (n : Int) :: f 3 :: f 4 :: f 5 :: f 6 :: v7 :: v8 :: f 9 :: f 10 :: f 11 :: f 12 :: f 13 :: f 14 :: f 15 :: f 16 :: f 17 :: f 18 :: f 19 :: f 20 :: f 21 :: f 22 :: f 23 :: f 24 :: f 25 :: f 26 :: f 27 :: f 28 :: f 29 :: f 30 :: f 31 :: f 32 :: f 33 :: f 34 :: f 35 :: f 36 :: f 37 :: f 38 :: f 39 :: f 40 :: f 41 :: f 42 :: f 43 :: f 44 :: f 45 :: f 46 :: f 47 :: f 48 :: f 49 :: f 50 :: f 51 :: f 52 :: f 53 :: f 54 :: f 55 :: f 56 :: f 57 :: f 58 :: f 59 :: f 60 :: f 61 :: f 62 :: f 63 :: f 64 :: f 65 :: f 66 :: f 67 :: f 68 :: f 69 :: f 70 :: f 71 :: f 72 :: f 73 :: f 74 :: f 75 :: f 76 :: f 77 :: f 78 :: f 79 :: f 80 :: f 81 :: f 82 :: f 83 :: f 84 :: f 85 :: f 86 :: f 87 :: f 88 :: f 89 :: f 90 :: f 91 :: f 92 :: f 93 :: f 94 :: f 95 :: f 96 :: f 97 :: f 98 :: f 99 :: f 100 :: f 101 :: []),defers:=[] } ∧ v8 = .int .i64 (k : Int) ∧ A0_ (k + m = n + 1) ∧ A0_ (k ≤ n) ∧ A0_ (acc.length = k) ∧ A0_ (pk ≤ s.size) ∧ A0_ (Kd.R k125 75 w' w.heap.size (fun _ => True) v7 acc) ∧ A0_ (KR w w' R) ∧ A0_ (SD w' R s pk (-1)) ∧ A0_ (appOk acc (gatesB s (a0 + k) (n - k) pk) = res)
 |1 => ∃ (f : Nat → Value) (v7 v8 : Value) (pk : Nat),a = { tmps:=List.toArray (.pointer (some ⟨R,0,none⟩) :: .int .i64 (a0 : Int) :: .int .i64 (n : Int) :: f 3 :: f 4 :: f 5 :: f 6 :: v7 :: v8 :: f 9 :: f 10 :: f 11 :: f 12 :: f 13 :: f 14 :: f 15 :: f 16 :: f 17 :: f 18 :: f 19 :: f 20 :: f 21 :: f 22 :: f 23 :: f 24 :: f 25 :: f 26 :: f 27 :: f 28 :: f 29 :: f 30 :: f 31 :: f 32 :: f 33 :: f 34 :: f 35 :: f 36 :: f 37 :: f 38 :: f 39 :: f 40 :: f 41 :: f 42 :: f 43 :: f 44 :: f 45 :: f 46 :: f 47 :: f 48 :: f 49 :: f 50 :: f 51 :: f 52 :: f 53 :: f 54 :: f 55 :: f 56 :: f 57 :: f 58 :: f 59 :: f 60 :: f 61 :: f 62 :: f 63 :: f 64 :: f 65 :: f 66 :: f 67 :: f 68 :: f 69 :: f 70 :: f 71 :: f 72 :: f 73 :: f 74 :: f 75 :: f 76 :: f 77 :: f 78 :: f 79 :: f 80 :: f 81 :: f 82 :: f 83 :: f 84 :: f 85 :: f 86 :: f 87 :: f 88 :: f 89 :: f 90 :: f 91 :: f 92 :: f 93 :: f 94 :: f 95 :: f 96 :: f 97 :: f 98 :: f 99 :: f 100 :: f 101 :: []),defers:=[] } ∧ A0_ (KR w w' R) ∧ A0_ (SD w' R s pk (-1)) ∧ A0_ (res = .error pk)
 |_ => False
set_option maxRecDepth 100000 in
theorem JG.wrong {w w' : World} {R a0 n pk : Nat} {s : ByteArray} {res : Except Nat (List S125 × Nat)} {tm : Array Value} (m : Nat) (h : tm = List.toArray (.pointer (some ⟨R,0,none⟩) :: .int .i64 (a0 : Int) :: .int .i64 (n : Int) :: tm.getD 3 undef :: tm.getD 4 undef :: tm.getD 5 undef :: tm.getD 6 undef :: tm.getD 7 undef :: tm.getD 8 undef :: tm.getD 9 undef :: tm.getD 10 undef :: tm.getD 11 undef :: tm.getD 12 undef :: tm.getD 13 undef :: tm.getD 14 undef :: tm.getD 15 undef :: tm.getD 16 undef :: tm.getD 17 undef :: tm.getD 18 undef :: tm.getD 19 undef :: tm.getD 20 undef :: tm.getD 21 undef :: tm.getD 22 undef :: tm.getD 23 undef :: tm.getD 24 undef :: tm.getD 25 undef :: tm.getD 26 undef :: tm.getD 27 undef :: tm.getD 28 undef :: tm.getD 29 undef :: tm.getD 30 undef :: tm.getD 31 undef :: tm.getD 32 undef :: tm.getD 33 undef :: tm.getD 34 undef :: tm.getD 35 undef :: tm.getD 36 undef :: tm.getD 37 undef :: tm.getD 38 undef :: tm.getD 39 undef :: tm.getD 40 undef :: tm.getD 41 undef :: tm.getD 42 undef :: tm.getD 43 undef :: tm.getD 44 undef :: tm.getD 45 undef :: tm.getD 46 undef :: tm.getD 47 undef :: tm.getD 48 undef :: tm.getD 49 undef :: tm.getD 50 undef :: tm.getD 51 undef :: tm.getD 52 undef :: tm.getD 53 undef :: tm.getD 54 undef :: tm.getD 55 undef :: tm.getD 56 undef :: tm.getD 57 undef :: tm.getD 58 undef :: tm.getD 59 undef :: tm.getD 60 undef :: tm.getD 61 undef :: tm.getD 62 undef :: tm.getD 63 undef :: tm.getD 64 undef :: tm.getD 65 undef :: tm.getD 66 undef :: tm.getD 67 undef :: tm.getD 68 undef :: tm.getD 69 undef :: tm.getD 70 undef :: tm.getD 71 undef :: tm.getD 72 undef :: tm.getD 73 undef :: tm.getD 74 undef :: tm.getD 75 undef :: tm.getD 76 undef :: tm.getD 77 undef :: tm.getD 78 undef :: tm.getD 79 undef :: tm.getD 80 undef :: tm.getD 81 undef :: tm.getD 82 undef :: tm.getD 83 undef :: tm.getD 84 undef :: tm.getD 85 undef :: tm.getD 86 undef :: tm.getD 87 undef :: tm.getD 88 undef :: tm.getD 89 undef :: tm.getD 90 undef :: tm.getD 91 undef :: tm.getD 92 undef :: tm.getD 93 undef :: tm.getD 94 undef :: tm.getD 95 undef :: tm.getD 96 undef :: tm.getD 97 undef :: tm.getD 98 undef :: tm.getD 99 undef :: tm.getD 100 undef :: tm.getD 101 undef :: [])) (hk : KR w w' R) (hs : SD w' R s pk (-1)) (hr : res = .error pk) : JG w R a0 n s res m 1 { tmps:=tm,defers:=[] } w' :=
 ⟨fun i => tm.getD i undef,tm.getD 7 undef,tm.getD 8 undef,pk,congrArg (fun t => ({ tmps:=t,defers:=[] } : Act)) h,⟨hk⟩,⟨hs⟩,⟨hr⟩⟩
set_option maxRecDepth 100000 in
theorem JG.next {w w' : World} {R a0 n pk k : Nat} {s : ByteArray} {res : Except Nat (List S125 × Nat)} {tm : Array Value} {acc : List S125} {m : Nat} {v7 : Value} (h : tm = List.toArray (.pointer (some ⟨R,0,none⟩) :: .int .i64 (a0 : Int) :: .int .i64 (n : Int) :: tm.getD 3 undef :: tm.getD 4 undef :: tm.getD 5 undef :: tm.getD 6 undef :: v7 :: .int .i64 (k : Int) :: tm.getD 9 undef :: tm.getD 10 undef :: tm.getD 11 undef :: tm.getD 12 undef :: tm.getD 13 undef :: tm.getD 14 undef :: tm.getD 15 undef :: tm.getD 16 undef :: tm.getD 17 undef :: tm.getD 18 undef :: tm.getD 19 undef :: tm.getD 20 undef :: tm.getD 21 undef :: tm.getD 22 undef :: tm.getD 23 undef :: tm.getD 24 undef :: tm.getD 25 undef :: tm.getD 26 undef :: tm.getD 27 undef :: tm.getD 28 undef :: tm.getD 29 undef :: tm.getD 30 undef :: tm.getD 31 undef :: tm.getD 32 undef :: tm.getD 33 undef :: tm.getD 34 undef :: tm.getD 35 undef :: tm.getD 36 undef :: tm.getD 37 undef :: tm.getD 38 undef :: tm.getD 39 undef :: tm.getD 40 undef :: tm.getD 41 undef :: tm.getD 42 undef :: tm.getD 43 undef :: tm.getD 44 undef :: tm.getD 45 undef :: tm.getD 46 undef :: tm.getD 47 undef :: tm.getD 48 undef :: tm.getD 49 undef :: tm.getD 50 undef :: tm.getD 51 undef :: tm.getD 52 undef :: tm.getD 53 undef :: tm.getD 54 undef :: tm.getD 55 undef :: tm.getD 56 undef :: tm.getD 57 undef :: tm.getD 58 undef :: tm.getD 59 undef :: tm.getD 60 undef :: tm.getD 61 undef :: tm.getD 62 undef :: tm.getD 63 undef :: tm.getD 64 undef :: tm.getD 65 undef :: tm.getD 66 undef :: tm.getD 67 undef :: tm.getD 68 undef :: tm.getD 69 undef :: tm.getD 70 undef :: tm.getD 71 undef :: tm.getD 72 undef :: tm.getD 73 undef :: tm.getD 74 undef :: tm.getD 75 undef :: tm.getD 76 undef :: tm.getD 77 undef :: tm.getD 78 undef :: tm.getD 79 undef :: tm.getD 80 undef :: tm.getD 81 undef :: tm.getD 82 undef :: tm.getD 83 undef :: tm.getD 84 undef :: tm.getD 85 undef :: tm.getD 86 undef :: tm.getD 87 undef :: tm.getD 88 undef :: tm.getD 89 undef :: tm.getD 90 undef :: tm.getD 91 undef :: tm.getD 92 undef :: tm.getD 93 undef :: tm.getD 94 undef :: tm.getD 95 undef :: tm.getD 96 undef :: tm.getD 97 undef :: tm.getD 98 undef :: tm.getD 99 undef :: tm.getD 100 undef :: tm.getD 101 undef :: [])) (h1 : k + m = n + 1) (h2 : k ≤ n) (h3 : acc.length = k) (h4 : pk ≤ s.size) (h5 : Kd.R k125 75 w' w.heap.size (fun _ => True) v7 acc) (hk : KR w w' R) (hs : SD w' R s pk (-1)) (hr : appOk acc (gatesB s (a0 + k) (n - k) pk) = res) : JG w R a0 n s res m 0 { tmps:=tm,defers:=[] } w' :=
 ⟨fun i => tm.getD i undef,v7,.int .i64 (k : Int),k,acc,pk,congrArg (fun t => ({ tmps:=t,defers:=[] } : Act)) h,rfl,⟨h1⟩,⟨h2⟩,⟨h3⟩,⟨h4⟩,⟨h5⟩,⟨hk⟩,⟨hs⟩,⟨hr⟩⟩
set_option maxHeartbeats 4000000 in
set_option maxRecDepth 100000 in
theorem gatesB_calls {w : World} {R p a0 n : Nat} {s : ByteArray} (hR : SD w R s p (-1)) (hp : p ≤ s.size) (hs : s.size ≤ 262144) (hn : n ≤ 16384) (ha : a0 ≤ 32768) :
  Calls Tryz.prog 22 #[.pointer (some ⟨R,0,none⟩),.int .i64 (a0 : Int),.int .i64 (n : Int)] w (GateEndB w R s (gatesB s a0 n p)):=by
 obtain ⟨res,hres⟩ : ∃ res,gatesB s a0 n p = res:=⟨_,rfl⟩
 rw [hres]
 have HRES:=A0_.mk hres
 have HSD:=A0_.mk hR
 have HP:=A0_.mk hp
 have HS:=A0_.mk hs
 have HN:=A0_.mk hn
 have HA0:=A0_.mk ha
 have HRL:=A0_.mk hR.lt
 clear hres hR hp hs hn ha
 go_enter Tryz.func22,Tryz.ntmps22
 go_wp2
 refine scope_jumps (JG w R a0 n s res) 0 rfl ?pass0 ?start
 case start =>
  intro hbody
  go_wp2
  go_step3
  rename_i hK
  refine hK _ _ (hbody (n + 1) _ _ ⟨fun i => match i with|6 => .slice none 0 0|_ => undef,_,_,0,[],p,rfl,rfl,⟨by omega⟩,⟨Nat.zero_le _⟩,⟨rfl⟩,HP,⟨Kd.R_nil _ _ _ _ _⟩,⟨KR.refl _ _⟩,HSD,⟨by rw [appOk_nil];exact HRES.out⟩⟩)
 case pass0 =>
  clear HRES HSD HP
  intro m l a wr hJ
  match l,hJ with
  |0,hJ =>
   obtain ⟨f,v7,v8,k,acc,pk,rfl,rfl,HK,HKN,HAL,HPK,HAR,HKR,HSDW,HR⟩:=hJ
   refine ⟨_,rfl,?_⟩
   by_cases ck : k = n
   ·subst ck
    have ckb : ((k : Int) == (k : Int)) = true:=beq_self_eq_true _
    have hr:=HR.out
    rw [Nat.sub_self,gatesB] at hr
    have e2 : appOk acc (.ok (([] : List S125),pk)) = .ok (acc,pk):=by simp [appOk]
    rw [e2] at hr
    subst hr
    clear e2
    go_wp2
    refine JumpTo.ret ?_
    go_ret
    exact ⟨_,rfl,HAR.out,HSDW.out,HKR.out⟩
   ·have ckb : ((k : Int) == (n : Int)) = false:=beq_eq_false_iff_ne.2 (by omega)
    have HLT:=A0_.mk (show k < n by have:=HKN.out;omega)
    obtain ⟨O,hO⟩ : ∃ O : Int,2 * ((a0 : Int) + (k : Int) + 1) = O:=⟨_,rfl⟩
    have hwa : IntKind.i64.wrap ((a0 : Int) + (k : Int)) = (a0 : Int) + (k : Int):=by have:=HN.out;have:=HA0.out;have:=HLT.out;rw [IntKind.wrap_i64];omega
    have hwb : IntKind.i64.wrap ((a0 : Int) + (k : Int) + 1) = (a0 : Int) + (k : Int) + 1:=by have:=HN.out;have:=HA0.out;have:=HLT.out;rw [IntKind.wrap_i64];omega
    have hwc : IntKind.i64.wrap (2 * ((a0 : Int) + (k : Int) + 1)) = O:=by have:=HN.out;have:=HA0.out;have:=HLT.out;rw [IntKind.wrap_i64];omega
    have HOV:=A0_.mk hO
    clear hO ck
    go_upto_region 6 with (fail)
    (try simp only [hwc])
    obtain ⟨x,e,c,d,hgv,hcase⟩:=getV_form pk (getW s pk)
    have HGV:=A0_.mk hgv
    have HCASE:=A0_.mk hcase
    clear hgv hcase hwa hwb hwc
    have hbe : Below wr.heap.size wr (wr.alloc (.cells #[.int .i64 O,.int .i64 0,.int .i64 0] 75)):=eA_ (Below.refl _ _) _
    have HGS5:=A0_.mk (show GS w (wr.alloc (.cells #[.int .i64 O,.int .i64 0,.int .i64 0] 75)) R wr.heap.size s pk O 0 0 v7 acc from
     ⟨HKR.out.trans (KR.below (Nat.le_trans (Nat.le_of_lt HRL.out) HKR.out.kb.1) hbe),HSDW.out.below hbe,Kd.R_below (Kd.R_mono (Kd.R_bound HAR.out) (fun k hk => ⟨by have:=hk.2.1;have:=HRL.out;omega,hk.2.2.1⟩)) hbe,blk_new wr _,HRL.out,HKR.out.kb.1⟩)
    clear hbe HKR HSDW HAR
    generalize wr.alloc (.cells #[.int .i64 O,.int .i64 0,.int .i64 0] 75) = w5 at HGS5 ⊢
    generalize wr.heap.size = g9 at HGS5 ⊢
    have HGSd:=A0_.mk (HGS5.out.below (below_drew (Below.refl w5.heap.size w5)))
    refine wp_normal' ?_
    refine start_ (n:=17) (S:=fun w' => w'.cell? ⟨R,0,none⟩ = some (.string s) ∧ w'.cell? ⟨R,1,none⟩ = some (.int .i64 (pk : Int))) (ds:=[16]) (Array.replicate 17 false) (by kernel_rfl) rfl rfl ⟨bC_ HGSd.out.sd 0,bC_ HGSd.out.sd 1⟩ (fun hHeld => ?_)
    refine pure_ (i:=0) (N:=some 24) (v:=?_) (a':=?_) (zA_ 17 1) rfl rfl (by kernel_rfl) (fun _ _ _ h => by cases h.1) (Or.inl ⟨by rfl,?_⟩) ?_ ?_
    rotate_left
    ·intro w'
     go_simp
     with_reducible rfl
    rotate_left
    ·simp only [Act.put,sA_,sB_,sC_]
     rfl
    refine pure_ (i:=1) (N:=some 25) (v:=?_) (a':=?_) (zA_ 17 3) rfl rfl (by kernel_rfl) (fun _ _ _ h => by cases h.1) (Or.inl ⟨by rfl,?_⟩) ?_ ?_
    rotate_left
    ·intro w'
     go_simp
     with_reducible rfl
    rotate_left
    ·simp only [Act.put,sA_,sB_,sC_]
     rfl
    refine pure_ (i:=2) (N:=some 26) (v:=?_) (a':=?_) (zA_ 17 7) rfl rfl (by kernel_rfl) (fun _ _ _ h => by cases h.1) (Or.inl ⟨by rfl,?_⟩) ?_ ?_
    rotate_left
    ·intro w'
     go_simp
     with_reducible rfl
    rotate_left
    ·simp only [Act.put,sA_,sB_,sC_]
     rfl
    refine take_ (i:=3) (N:=some 27) (v:=?_) (a':=?_) (zA_ 17 15) rfl rfl (by kernel_rfl) (fun _ _ _ h => by cases h.1) (Or.inl ⟨by rfl,?_⟩) hHeld ?_ ?_
    rotate_left
    ·intro w' s0
     obtain ⟨s0_,s1_⟩:=s0
     go_simp
     with_reducible rfl
    rotate_left
    ·simp only [Act.put,sA_,sB_,sC_]
     rfl
    refine pure_ (i:=4) (N:=some 28) (v:=?_) (a':=?_) (zA_ 17 31) rfl rfl (by kernel_rfl) (fun _ _ _ h => by cases h.1) (Or.inl ⟨by rfl,?_⟩) ?_ ?_
    rotate_left
    ·intro w'
     go_simp
     with_reducible rfl
    rotate_left
    ·simp only [Act.put,sA_,sB_,sC_]
     rfl
    refine pure_ (i:=5) (N:=some 29) (v:=?_) (a':=?_) (zA_ 17 63) rfl rfl (by kernel_rfl) (fun _ _ _ h => by cases h.1) (Or.inl ⟨by rfl,?_⟩) ?_ ?_
    rotate_left
    ·intro w'
     go_simp
     with_reducible rfl
    rotate_left
    ·simp only [Act.put,sA_,sB_,sC_]
     rfl
    refine pure_ (i:=6) (N:=some 30) (v:=?_) (a':=?_) (zA_ 17 127) rfl rfl (by kernel_rfl) (fun _ _ _ h => by cases h.1) (Or.inl ⟨by rfl,?_⟩) ?_ ?_
    rotate_left
    ·intro w'
     go_simp
     with_reducible rfl
    rotate_left
    ·simp only [Act.put,sA_,sB_,sC_]
     rfl
    refine take_ (i:=7) (N:=some 31) (v:=?_) (a':=?_) (zA_ 17 255) rfl rfl (by kernel_rfl) (fun _ _ _ h => by cases h.1) (Or.inl ⟨by rfl,?_⟩) hHeld ?_ ?_
    rotate_left
    ·intro w' s0
     obtain ⟨s0_,s1_⟩:=s0
     go_simp
     with_reducible rfl
    rotate_left
    ·simp only [Act.put,sA_,sB_,sC_]
     rfl
    refine join_ (σ:=Nat) 3 (zA_ 17 16383) (fun z => [(32,.tuple #[.int .i64 x,.int .i64 e,.agg #[.int .i64 c,.int .i64 d]]),(23,.tuple #[.int .i64 x,.int .i64 e,.agg #[.int .i64 c,.int .i64 d]]),(33,.int .i64 x),(34,.int .i64 e),(35,.agg #[.int .i64 c,.int .i64 d]),(12,.pointer (some ⟨z,0,none⟩))]) (fun z W' => W'.heap[z]? = some (.cells #[.int .i64 0,.int .i64 0] 32 (0,0)) ∧ g9 < z ∧ GS w W' R g9 s pk O 0 0 v7 acc) ?cont ?orders
    case orders =>
     intro hcont
     refine two_ (i:=8) (j:=13) (Ni:=some 32) (Nj:=some 12) (zA_ 17 511) (zA_ 17 8447) rfl rfl rfl rfl (by kernel_rfl) (by decide) (by decide) (fun K hK => ?_) (fun K hK => ?_)
     ·refine goes_ Tryz.func54 (by kernel_rfl) rfl #[.string s,.int .i64 (pk : Int)] (by rfl) rfl rfl (by (try simp only [List.map_toArray,List.map_cons,List.map_nil]);first|done|rfl) ?_
      refine (getW_calls HS.out HPK.out).mono ?_
      rintro e1 W1 ⟨he,hb⟩
      rw [HGV.out] at he
      have HG1:=A0_.mk (HGSd.out.below hb)
      refine ⟨_,he,?_⟩
      refine hK.out _ _ ⟨bC_ HG1.out.sd 0,bC_ HG1.out.sd 1⟩ (fun hHeld2 => ?_)
      clear hK K
      refine norm_ (a':=?_) ?_ ?_
      rotate_left
      ·show Act.put _ (some 32) _ = _
       simp only [Act.put,sA_,sB_,sC_]
       rfl
      refine pure_ (i:=9) (N:=some 23) (v:=?_) (a':=?_) (zA_ 17 1023) rfl rfl (by kernel_rfl) (fun _ _ _ h => by cases h.1) (Or.inl ⟨by rfl,?_⟩) ?_ ?_
      rotate_left
      ·intro w'
       go_simp
       with_reducible rfl
      rotate_left
      ·simp only [Act.put,sA_,sB_,sC_]
       rfl
      refine pure_ (i:=10) (N:=some 33) (v:=?_) (a':=?_) (zA_ 17 2047) rfl rfl (by kernel_rfl) (fun _ _ _ h => by cases h.1) (Or.inl ⟨by rfl,?_⟩) ?_ ?_
      rotate_left
      ·intro w'
       go_simp
       with_reducible rfl
      rotate_left
      ·simp only [Act.put,sA_,sB_,sC_]
       rfl
      refine pure_ (i:=11) (N:=some 34) (v:=?_) (a':=?_) (zA_ 17 4095) rfl rfl (by kernel_rfl) (fun _ _ _ h => by cases h.1) (Or.inl ⟨by rfl,?_⟩) ?_ ?_
      rotate_left
      ·intro w'
       go_simp
       with_reducible rfl
      rotate_left
      ·simp only [Act.put,sA_,sB_,sC_]
       rfl
      refine pure_ (i:=12) (N:=some 35) (v:=?_) (a':=?_) (zA_ 17 8191) rfl rfl (by kernel_rfl) (fun _ _ _ h => by cases h.1) (Or.inl ⟨by rfl,?_⟩) ?_ ?_
      rotate_left
      ·intro w'
       go_simp
       with_reducible rfl
      rotate_left
      ·simp only [Act.put,sA_,sB_,sC_]
       rfl
      refine one_ (i:=13) (N:=some 12) (zA_ 17 16383) rfl rfl (by kernel_rfl) (by decide) (fun K hK => ?_)
      refine value_ (v:=.pointer (some ⟨W1.heap.size,0,none⟩)) (w1:=W1.alloc (.cells #[.int .i64 0,.int .i64 0] 32)) rfl rfl ?_ ?_
      ·go_simp
      have HG2:=A0_.mk (HG1.out.below (eA_ (Below.refl W1.heap.size W1) (.cells #[.int .i64 0,.int .i64 0] 32)))
      refine hK.out _ _ ⟨bC_ HG2.out.sd 0,bC_ HG2.out.sd 1⟩ (fun hHeld3 => ?_)
      clear hK K
      refine norm_ (a':=_) ?_ (hcont W1.heap.size _ ⟨blk_new _ _,blk_lt HG1.out.blk,HG2.out⟩)
      simp only [putAll,Act.put,sA_,sB_,sC_]
     ·refine value_ (v:=.pointer (some ⟨w5.drew.heap.size,0,none⟩)) (w1:=w5.drew.alloc (.cells #[.int .i64 0,.int .i64 0] 32)) rfl rfl ?_ ?_
      ·go_simp
      have hbe:=eA_ (Below.refl w5.drew.heap.size w5.drew) (.cells #[.int .i64 0,.int .i64 0] 32)
      have HG1:=A0_.mk (HGSd.out.below hbe)
      refine hK.out _ _ ⟨bC_ HG1.out.sd 0,bC_ HG1.out.sd 1⟩ (fun hHeld2 => ?_)
      clear hK K
      refine norm_ (a':=?_) ?_ ?_
      rotate_left
      ·show Act.put _ (some 12) _ = _
       simp only [Act.put,sA_,sB_,sC_]
       rfl
      refine one_ (i:=8) (N:=some 32) (zA_ 17 8703) rfl rfl (by kernel_rfl) (by decide) (fun K hK => ?_)
      refine goes_ Tryz.func54 (by kernel_rfl) rfl #[.string s,.int .i64 (pk : Int)] (by rfl) rfl rfl (by (try simp only [List.map_toArray,List.map_cons,List.map_nil]);first|done|rfl) ?_
      refine (getW_calls HS.out HPK.out).mono ?_
      rintro e1 W1 ⟨he,hb⟩
      rw [HGV.out] at he
      have HG2:=A0_.mk (HG1.out.below hb)
      refine ⟨_,he,?_⟩
      refine hK.out _ _ ⟨bC_ HG2.out.sd 0,bC_ HG2.out.sd 1⟩ (fun hHeld3 => ?_)
      clear hK K
      refine norm_ (a':=?_) ?_ ?_
      rotate_left
      ·show Act.put _ (some 32) _ = _
       simp only [Act.put,sA_,sB_,sC_]
       rfl
      refine pure_ (i:=9) (N:=some 23) (v:=?_) (a':=?_) (zA_ 17 9215) rfl rfl (by kernel_rfl) (fun _ _ _ h => by cases h.1) (Or.inl ⟨by rfl,?_⟩) ?_ ?_
      rotate_left
      ·intro w'
       go_simp
       with_reducible rfl
      rotate_left
      ·simp only [Act.put,sA_,sB_,sC_]
       rfl
      refine pure_ (i:=10) (N:=some 33) (v:=?_) (a':=?_) (zA_ 17 10239) rfl rfl (by kernel_rfl) (fun _ _ _ h => by cases h.1) (Or.inl ⟨by rfl,?_⟩) ?_ ?_
      rotate_left
      ·intro w'
       go_simp
       with_reducible rfl
      rotate_left
      ·simp only [Act.put,sA_,sB_,sC_]
       rfl
      refine pure_ (i:=11) (N:=some 34) (v:=?_) (a':=?_) (zA_ 17 12287) rfl rfl (by kernel_rfl) (fun _ _ _ h => by cases h.1) (Or.inl ⟨by rfl,?_⟩) ?_ ?_
      rotate_left
      ·intro w'
       go_simp
       with_reducible rfl
      rotate_left
      ·simp only [Act.put,sA_,sB_,sC_]
       rfl
      refine pure_ (i:=12) (N:=some 35) (v:=?_) (a':=?_) (zA_ 17 16383) rfl rfl (by kernel_rfl) (fun _ _ _ h => by cases h.1) (Or.inl ⟨by rfl,?_⟩) ?_ ?_
      rotate_left
      ·intro w'
       go_simp
       with_reducible rfl
      rotate_left
      ·simp only [Act.put,sA_,sB_,sC_]
       rfl
      refine norm_ (a':=_) ?_ (hcont w5.drew.heap.size _ ⟨keep_below (blk_new _ _) hb,blk_lt HGSd.out.blk,HG2.out⟩)
      simp only [putAll,Act.put,sA_,sB_,sC_]
    case cont =>
     rintro z W2 ⟨hz,hgz,hgs⟩
     have HGS2:=A0_.mk hgs
     have HGZ:=A0_.mk hgz
     have HZ:=A0_.mk hz
     refine norm_ (a':=?_) ?_ ?_
     rotate_left
     ·simp only [putAll,Act.put,sA_,sB_,sC_]
      rfl
     refine pure_ (i:=14) (N:=some 10) (v:=?_) (a':=?_) (zA_ 17 32767) rfl rfl (by kernel_rfl) (fun _ _ _ h => by cases h.1) (Or.inl ⟨by rfl,?_⟩) ?_ ?_
     rotate_left
     ·intro w'
      go_simp
      with_reducible rfl
     rotate_left
     ·simp only [Act.put,sA_,sB_,sC_]
      rfl
     refine pure_ (i:=15) (N:=some 11) (v:=?_) (a':=?_) (zA_ 17 65535) rfl rfl (by kernel_rfl) (fun _ _ _ h => by cases h.1) (Or.inl ⟨by rfl,?_⟩) ?_ ?_
     rotate_left
     ·intro w'
      go_simp
      with_reducible rfl
     rotate_left
     ·simp only [Act.put,sA_,sB_,sC_]
      rfl
     have z0:=bF_ hz 0
     have z1:=bF_ hz 1
     have y0 : W2.cell? ⟨z,0,none⟩ = some (.int .i64 0):=bC_ hz 0
     have y1 : W2.cell? ⟨z,1,none⟩ = some (.int .i64 0):=bC_ hz 1
     clear hz hgz hgs
     refine last_ (i:=16) (N:=none) (zA_ 17 131071) rfl rfl (by kernel_rfl) (by decide) (fun K hK => ?_)
     refine skip_ (w1:=(W2.setCell ⟨z,0,none⟩ (.int .i64 c)).setCell ⟨z,1,none⟩ (.int .i64 d)) rfl rfl ?_ ?_
     ·go_simp
     refine hK.out _ _ ?_
     clear hK K
     refine done_ (by kernel_rfl) ?_
     have HF:=A0_.mk (show ((W2.setCell ⟨z,0,none⟩ (.int .i64 c)).setCell ⟨z,1,none⟩ (.int .i64 d)).heap[z]? = some (.cells #[.int .i64 c,.int .i64 d] 32 (0,0)) from blk_put (cs:=#[.int .i64 c,.int .i64 0]) (blk_put (cs:=#[.int .i64 0,.int .i64 0]) HZ.out 0 _ rfl) 1 _ rfl)
     have HGS6:=A0_.mk ((HGS2.out.far HGZ.out 0 (.int .i64 c)).far HGZ.out 1 (.int .i64 d))
     clear z0 z1 y0 y1 HZ HGS2
     generalize (W2.setCell ⟨z,0,none⟩ (.int .i64 c)).setCell ⟨z,1,none⟩ (.int .i64 d) = w6 at HF HGS6 ⊢
     refine ⟨rfl,?_⟩
     rename_i hKK
     refine hKK _ _ ?_
     clear hKK
     have q0 : w6.cell? ⟨z,0,none⟩ = some (.int .i64 c):=bC_ HF.out 0
     have q1 : w6.cell? ⟨z,1,none⟩ = some (.int .i64 d):=bC_ HF.out 1
     have o0 : w6.cell? ⟨g9,0,none⟩ = some (.int .i64 O):=bC_ HGS6.out.blk 0
     rcases HCASE.out with ⟨hg,rfl,rfl,rfl,rfl⟩|⟨xn,en,hg,rfl,rfl,rfl,rfl⟩
     ·have HRE:=A0_.mk (show res = .error pk by
       have h:=HR.out
       rw [show n - k = (n - (k + 1)) + 1 by have:=HLT.out;omega,gatesB,hg] at h
       exact h.symm)
      clear HCASE hg
      go_wp2
      go_step3
      show ∃ m',m' < m ∧ JG w R a0 n s res m' 1 _ _
      exact ⟨0,by have:=HK.out;have:=HLT.out;omega,JG.wrong 0 rfl HGS6.out.kr HGS6.out.sd HRE.out⟩
     ·by_cases hx0 : xn = 0
      ·subst hx0
       have HRE:=A0_.mk (show res = .error pk by
        have h:=HR.out
        rw [show n - k = (n - (k + 1)) + 1 by have:=HLT.out;omega,gatesB,hg] at h
        dsimp only at h
        rw [if_pos (Or.inl rfl)] at h
        exact h.symm)
       clear HCASE hg
       go_wp2
       go_step3
       show ∃ m',m' < m ∧ JG w R a0 n s res m' 1 _ _
       exact ⟨0,by have:=HK.out;have:=HLT.out;omega,JG.wrong 0 rfl HGS6.out.kr HGS6.out.sd HRE.out⟩
      ·have b0 : ((xn : Int) == 0) = false:=beq_eq_false_iff_ne.2 (by omega)
       by_cases hxo : O < (xn : Int)
       ·have HRE:=A0_.mk (show res = .error pk by
         have h:=HR.out
         rw [show n - k = (n - (k + 1)) + 1 by have:=HLT.out;omega,gatesB,hg] at h
         dsimp only at h
         rw [if_pos (Or.inr (by have:=HOV.out;omega))] at h
         exact h.symm)
        have bo : decide (O < (xn : Int)) = true:=decide_eq_true hxo
        clear HCASE hg hx0
        go_wp2
        go_step3
        show ∃ m',m' < m ∧ JG w R a0 n s res m' 1 _ _
        exact ⟨0,by have:=HK.out;have:=HLT.out;omega,JG.wrong 0 rfl HGS6.out.kr HGS6.out.sd HRE.out⟩
       ·have bo : decide (O < (xn : Int)) = false:=decide_eq_false hxo
        obtain ⟨L,hL⟩ : ∃ L : Int,O - (xn : Int) = L:=⟨_,rfl⟩
        have HXLE:=A0_.mk (getW_le hg)
        have HX0:=A0_.mk hx0
        have HXO:=A0_.mk hxo
        have HG1:=A0_.mk hg
        have HLV:=A0_.mk hL
        have hwl : IntKind.i64.wrap (O - (xn : Int)) = L:=by have:=HOV.out;have:=HN.out;have:=HA0.out;have:=HLT.out;have:=HXLE.out;rw [IntKind.wrap_i64];omega
        have zg:=bF_ HGS6.out.blk 1
        have o1 : w6.cell? ⟨g9,1,none⟩ = some (.int .i64 0):=bC_ HGS6.out.blk 1
        clear HCASE hg hx0 hxo hL
        go_upto_region 9 with (fail)
        clear zg o1 q0 q1 o0 hwl b0 bo
        have HGS7:=A0_.mk (HGS6.out.left L)
        have HF7:=A0_.mk (show (w6.setCell ⟨g9,1,none⟩ (.int .i64 L)).heap[z]? = some (.cells #[.int .i64 0,.int .i64 0] 32 (0,0)) from blk_far HF.out (p:=⟨g9,1,none⟩) (Nat.ne_of_gt HGZ.out) _)
        clear HGS6 HF
        generalize w6.setCell ⟨g9,1,none⟩ (.int .i64 L) = w7 at HGS7 HF7 ⊢
        have r1 : w7.cell? ⟨R,1,none⟩ = some (.int .i64 (pk : Int)):=bC_ HGS7.out.sd 1
        have zr:=bF_ HGS7.out.sd 1
        go_upto_region 10 with (fail)
        clear r1 zr
        have HGS8:=A0_.mk (HGS7.out.place en)
        have HF8:=A0_.mk (show (w7.setCell ⟨R,1,none⟩ (.int .i64 (en : Int))).heap[z]? = some (.cells #[.int .i64 0,.int .i64 0] 32 (0,0)) from blk_far HF7.out (p:=⟨R,1,none⟩) (by have:=HGZ.out;have:=HGS7.out.rw_;have:=HGS7.out.wg;show z ≠ R;omega) _)
        clear HGS7 HF7
        generalize w7.setCell ⟨R,1,none⟩ (.int .i64 (en : Int)) = w8 at HGS8 HF8 ⊢
        obtain ⟨y,e2,c2,d2,hgv,hcase⟩:=getV_form en (getW s en)
        have HGV2:=A0_.mk hgv
        have HCASE:=A0_.mk hcase
        have HEN:=A0_.mk HXLE.out.2.1
        clear hgv hcase
        have HGSe:=A0_.mk (HGS8.out.below (below_drew (Below.refl w8.heap.size w8)))
        have HFe:=A0_.mk (keep_below HF8.out (below_drew (Below.refl w8.heap.size w8)))
        refine wp_normal' ?_
        refine start_ (n:=16) (S:=fun w' => w'.cell? ⟨R,0,none⟩ = some (.string s) ∧ w'.cell? ⟨R,1,none⟩ = some (.int .i64 (en : Int))) (ds:=[15]) (Array.replicate 16 false) (by kernel_rfl) rfl rfl ⟨bC_ HGSe.out.sd 0,bC_ HGSe.out.sd 1⟩ (fun hHeld => ?_)
        refine pure_ (i:=0) (N:=some 59) (v:=?_) (a':=?_) (zA_ 16 1) rfl rfl (by kernel_rfl) (fun _ _ _ h => by cases h.1) (Or.inl ⟨by rfl,?_⟩) ?_ ?_
        rotate_left
        ·intro w'
         go_simp
         with_reducible rfl
        rotate_left
        ·simp only [Act.put,sA_,sB_,sC_]
         rfl
        refine pure_ (i:=1) (N:=some 60) (v:=?_) (a':=?_) (zA_ 16 3) rfl rfl (by kernel_rfl) (fun _ _ _ h => by cases h.1) (Or.inl ⟨by rfl,?_⟩) ?_ ?_
        rotate_left
        ·intro w'
         go_simp
         with_reducible rfl
        rotate_left
        ·simp only [Act.put,sA_,sB_,sC_]
         rfl
        refine pure_ (i:=2) (N:=some 61) (v:=?_) (a':=?_) (zA_ 16 7) rfl rfl (by kernel_rfl) (fun _ _ _ h => by cases h.1) (Or.inl ⟨by rfl,?_⟩) ?_ ?_
        rotate_left
        ·intro w'
         go_simp
         with_reducible rfl
        rotate_left
        ·simp only [Act.put,sA_,sB_,sC_]
         rfl
        refine take_ (i:=3) (N:=some 62) (v:=?_) (a':=?_) (zA_ 16 15) rfl rfl (by kernel_rfl) (fun _ _ _ h => by cases h.1) (Or.inl ⟨by rfl,?_⟩) hHeld ?_ ?_
        rotate_left
        ·intro w' s0
         obtain ⟨s0_,s1_⟩:=s0
         go_simp
         with_reducible rfl
        rotate_left
        ·simp only [Act.put,sA_,sB_,sC_]
         rfl
        refine pure_ (i:=4) (N:=some 63) (v:=?_) (a':=?_) (zA_ 16 31) rfl rfl (by kernel_rfl) (fun _ _ _ h => by cases h.1) (Or.inl ⟨by rfl,?_⟩) ?_ ?_
        rotate_left
        ·intro w'
         go_simp
         with_reducible rfl
        rotate_left
        ·simp only [Act.put,sA_,sB_,sC_]
         rfl
        refine pure_ (i:=5) (N:=some 64) (v:=?_) (a':=?_) (zA_ 16 63) rfl rfl (by kernel_rfl) (fun _ _ _ h => by cases h.1) (Or.inl ⟨by rfl,?_⟩) ?_ ?_
        rotate_left
        ·intro w'
         go_simp
         with_reducible rfl
        rotate_left
        ·simp only [Act.put,sA_,sB_,sC_]
         rfl
        refine pure_ (i:=6) (N:=some 65) (v:=?_) (a':=?_) (zA_ 16 127) rfl rfl (by kernel_rfl) (fun _ _ _ h => by cases h.1) (Or.inl ⟨by rfl,?_⟩) ?_ ?_
        rotate_left
        ·intro w'
         go_simp
         with_reducible rfl
        rotate_left
        ·simp only [Act.put,sA_,sB_,sC_]
         rfl
        refine take_ (i:=7) (N:=some 66) (v:=?_) (a':=?_) (zA_ 16 255) rfl rfl (by kernel_rfl) (fun _ _ _ h => by cases h.1) (Or.inl ⟨by rfl,?_⟩) hHeld ?_ ?_
        rotate_left
        ·intro w' s0
         obtain ⟨s0_,s1_⟩:=s0
         go_simp
         with_reducible rfl
        rotate_left
        ·simp only [Act.put,sA_,sB_,sC_]
         rfl
        refine one_ (i:=8) (N:=some 67) (zA_ 16 511) rfl rfl (by kernel_rfl) (by decide) (fun K hK => ?_)
        refine goes_ Tryz.func54 (by kernel_rfl) rfl #[.string s,.int .i64 (en : Int)] (by rfl) rfl rfl (by (try simp only [List.map_toArray,List.map_cons,List.map_nil]);first|done|rfl) ?_
        refine (getW_calls HS.out HEN.out).mono ?_
        rintro e1 W3 ⟨he,hb⟩
        rw [HGV2.out] at he
        have HGS9:=A0_.mk (HGSe.out.below hb)
        have HF9:=A0_.mk (keep_below HFe.out hb)
        refine ⟨_,he,?_⟩
        refine hK.out _ _ ⟨bC_ HGS9.out.sd 0,bC_ HGS9.out.sd 1⟩ (fun hHeld2 => ?_)
        clear hK K
        refine norm_ (a':=?_) ?_ ?_
        rotate_left
        ·show Act.put _ (some 67) _ = _
         simp only [Act.put,sA_,sB_,sC_]
         rfl
        refine pure_ (i:=9) (N:=some 58) (v:=?_) (a':=?_) (zA_ 16 1023) rfl rfl (by kernel_rfl) (fun _ _ _ h => by cases h.1) (Or.inl ⟨by rfl,?_⟩) ?_ ?_
        rotate_left
        ·intro w'
         go_simp
         with_reducible rfl
        rotate_left
        ·simp only [Act.put,sA_,sB_,sC_]
         rfl
        refine pure_ (i:=10) (N:=some 68) (v:=?_) (a':=?_) (zA_ 16 2047) rfl rfl (by kernel_rfl) (fun _ _ _ h => by cases h.1) (Or.inl ⟨by rfl,?_⟩) ?_ ?_
        rotate_left
        ·intro w'
         go_simp
         with_reducible rfl
        rotate_left
        ·simp only [Act.put,sA_,sB_,sC_]
         rfl
        refine pure_ (i:=11) (N:=some 69) (v:=?_) (a':=?_) (zA_ 16 4095) rfl rfl (by kernel_rfl) (fun _ _ _ h => by cases h.1) (Or.inl ⟨by rfl,?_⟩) ?_ ?_
        rotate_left
        ·intro w'
         go_simp
         with_reducible rfl
        rotate_left
        ·simp only [Act.put,sA_,sB_,sC_]
         rfl
        refine pure_ (i:=12) (N:=some 70) (v:=?_) (a':=?_) (zA_ 16 8191) rfl rfl (by kernel_rfl) (fun _ _ _ h => by cases h.1) (Or.inl ⟨by rfl,?_⟩) ?_ ?_
        rotate_left
        ·intro w'
         go_simp
         with_reducible rfl
        rotate_left
        ·simp only [Act.put,sA_,sB_,sC_]
         rfl
        refine pure_ (i:=13) (N:=some 10) (v:=?_) (a':=?_) (zA_ 16 16383) rfl rfl (by kernel_rfl) (fun _ _ _ h => by cases h.1) (Or.inl ⟨by rfl,?_⟩) ?_ ?_
        rotate_left
        ·intro w'
         go_simp
         with_reducible rfl
        rotate_left
        ·simp only [Act.put,sA_,sB_,sC_]
         rfl
        refine pure_ (i:=14) (N:=some 11) (v:=?_) (a':=?_) (zA_ 16 32767) rfl rfl (by kernel_rfl) (fun _ _ _ h => by cases h.1) (Or.inl ⟨by rfl,?_⟩) ?_ ?_
        rotate_left
        ·intro w'
         go_simp
         with_reducible rfl
        rotate_left
        ·simp only [Act.put,sA_,sB_,sC_]
         rfl
        have z0:=bF_ HF9.out 0
        have z1:=bF_ HF9.out 1
        have y0 : W3.cell? ⟨z,0,none⟩ = some (.int .i64 0):=bC_ HF9.out 0
        have y1 : W3.cell? ⟨z,1,none⟩ = some (.int .i64 0):=bC_ HF9.out 1
        refine last_ (i:=15) (N:=none) (zA_ 16 65535) rfl rfl (by kernel_rfl) (by decide) (fun K hK => ?_)
        refine skip_ (w1:=(W3.setCell ⟨z,0,none⟩ (.int .i64 c2)).setCell ⟨z,1,none⟩ (.int .i64 d2)) rfl rfl ?_ ?_
        ·go_simp
        refine hK.out _ _ ?_
        clear hK K
        refine done_ (by kernel_rfl) ?_
        have HF:=A0_.mk (show ((W3.setCell ⟨z,0,none⟩ (.int .i64 c2)).setCell ⟨z,1,none⟩ (.int .i64 d2)).heap[z]? = some (.cells #[.int .i64 c2,.int .i64 d2] 32 (0,0)) from blk_put (cs:=#[.int .i64 c2,.int .i64 0]) (blk_put (cs:=#[.int .i64 0,.int .i64 0]) HF9.out 0 _ rfl) 1 _ rfl)
        have HGS6:=A0_.mk ((HGS9.out.far HGZ.out 0 (.int .i64 c2)).far HGZ.out 1 (.int .i64 d2))
        clear z0 z1 y0 y1 HF9 HGS9 HGS8 HF8 HGSe HFe
        generalize (W3.setCell ⟨z,0,none⟩ (.int .i64 c2)).setCell ⟨z,1,none⟩ (.int .i64 d2) = w9 at HF HGS6 ⊢
        refine ⟨rfl,?_⟩
        rename_i hKK
        refine hKK _ _ ?_
        clear hKK
        have q0 : w9.cell? ⟨z,0,none⟩ = some (.int .i64 c2):=bC_ HF.out 0
        have q1 : w9.cell? ⟨z,1,none⟩ = some (.int .i64 d2):=bC_ HF.out 1
        have o1 : w9.cell? ⟨g9,1,none⟩ = some (.int .i64 L):=bC_ HGS6.out.blk 1
        rcases HCASE.out with ⟨hg,rfl,rfl,rfl,rfl⟩|⟨yn,en2,hg,rfl,rfl,rfl,rfl⟩
        ·have HRE:=A0_.mk (show res = .error en by
          have h:=HR.out
          rw [show n - k = (n - (k + 1)) + 1 by have:=HLT.out;omega,gatesB,HG1.out] at h
          dsimp only at h
          rw [if_neg (by have:=HOV.out;have:=HX0.out;have:=HXO.out;omega),hg] at h
          exact h.symm)
         clear HCASE hg
         go_wp2
         go_step3
         show ∃ m',m' < m ∧ JG w R a0 n s res m' 1 _ _
         exact ⟨0,by have:=HK.out;have:=HLT.out;omega,JG.wrong 0 rfl HGS6.out.kr HGS6.out.sd HRE.out⟩
        ·by_cases hyl : L < (yn : Int)
         ·have HRE:=A0_.mk (show res = .error en by
           have h:=HR.out
           rw [show n - k = (n - (k + 1)) + 1 by have:=HLT.out;omega,gatesB,HG1.out] at h
           dsimp only at h
           rw [if_neg (by have:=HOV.out;have:=HX0.out;have:=HXO.out;omega),hg] at h
           dsimp only at h
           rw [if_pos (by have:=HOV.out;have:=HLV.out;have:=HXO.out;omega)] at h
           exact h.symm)
          have bl : decide (L < (yn : Int)) = true:=decide_eq_true hyl
          clear HCASE hg
          go_wp2
          go_step3
          show ∃ m',m' < m ∧ JG w R a0 n s res m' 1 _ _
          exact ⟨0,by have:=HK.out;have:=HLT.out;omega,JG.wrong 0 rfl HGS6.out.kr HGS6.out.sd HRE.out⟩
         ·have bl : decide (L < (yn : Int)) = false:=decide_eq_false hyl
          obtain ⟨Y,hY⟩ : ∃ Y : Int,L - (yn : Int) = Y:=⟨_,rfl⟩
          have HYLE:=A0_.mk (getW_le hg)
          have HYV:=A0_.mk hY
          have hwy : IntKind.i64.wrap (L - (yn : Int)) = Y:=by have:=HOV.out;have:=HLV.out;have:=HN.out;have:=HA0.out;have:=HLT.out;have:=HXLE.out;have:=HYLE.out;rw [IntKind.wrap_i64];omega
          have HRES2:=A0_.mk (show appOk (acc ++ [⟨O,L,Y⟩]) (gatesB s (a0 + (k + 1)) (n - (k + 1)) en2) = res by
           have h:=HR.out
           rw [show n - k = (n - (k + 1)) + 1 by have:=HLT.out;omega,gatesB_step HG1.out (by have:=HOV.out;have:=HX0.out;have:=HXO.out;omega) hg (by have:=HOV.out;have:=HLV.out;have:=HXO.out;omega),appOk_app] at h
           have e3 : (⟨2 * (((a0 + k : Nat) : Int) + 1),2 * (((a0 + k : Nat) : Int) + 1) - (xn : Int),2 * (((a0 + k : Nat) : Int) + 1) - (xn : Int) - (yn : Int)⟩ : S125) = ⟨O,L,Y⟩:=by
            have:=HOV.out
            have:=HLV.out
            simp only [S125.mk.injEq]
            refine ⟨?_,?_,?_⟩ <;> push_cast <;> omega
           rw [e3] at h
           exact h)
          have zg:=bF_ HGS6.out.blk 2
          have o2 : w9.cell? ⟨g9,2,none⟩ = some (.int .i64 0):=bC_ HGS6.out.blk 2
          clear HCASE hg hyl hY
          go_upto_region 13 with (fail)
          clear zg o2 q0 q1 o1 hwy bl HF
          have HGS10:=A0_.mk (HGS6.out.right Y)
          clear HGS6
          generalize w9.setCell ⟨g9,2,none⟩ (.int .i64 Y) = w10 at HGS10 ⊢
          have r1 : w10.cell? ⟨R,1,none⟩ = some (.int .i64 (en : Int)):=bC_ HGS10.out.sd 1
          have zr:=bF_ HGS10.out.sd 1
          go_upto_region 14 with (fail)
          clear r1 zr
          have HGS11:=A0_.mk (HGS10.out.place en2)
          clear HGS10
          generalize w10.setCell ⟨R,1,none⟩ (.int .i64 (en2 : Int)) = w11 at HGS11 ⊢
          have u0 : w11.cell? ⟨g9,0,none⟩ = some (.int .i64 O):=bC_ HGS11.out.blk 0
          have u1 : w11.cell? ⟨g9,1,none⟩ = some (.int .i64 L):=bC_ HGS11.out.blk 1
          have u2 : w11.cell? ⟨g9,2,none⟩ = some (.int .i64 Y):=bC_ HGS11.out.blk 2
          have HROW:=A0_.mk (Kd.R_mono HGS11.out.row (fun k hk => hk.1))
          have hw1 : IntKind.i64.wrap ((k : Int) + 1) = ((k + 1 : Nat) : Int):=by have:=HN.out;have:=HLT.out;rw [IntKind.wrap_i64];omega
          obtain ⟨A7,n7,rfl⟩:=Kd.R_slice HROW.out
          go_wp2_with (at_builtin;refine Kd.R_append k125 (w0:=w11) w.heap.size rfl (.tmp 89) (.tmp 91) 25 75 (.agg #[(.int .i64 0),(.int .i64 0),(.int .i64 0)]) 24 rfl Tryz.underlying25 info125 rfl (by decide) (by decide) _ acc (⟨O,L,Y⟩ : S125) [.int .i64 O,.int .i64 L,.int .i64 Y] (fun k => k ≠ R) (fun _ => False) rfl rfl (k125_mkM _ _ _ (⟨O,L,Y⟩ : S125)) (fun _ h => h.elim) (fun k hk => by have:=HRL.out;have:=HGS11.out.kr.kb.1;omega) HROW.out (Below.refl _ _) HGS11.out.kr.kb.1 (by have:=HAL.out;have:=HN.out;have:=HLT.out;omega) ?_;intro v3 w3 hr3 hb3 hg3 hat3;have HR3:=A0_.mk (Kd.R_mono hr3 (fun _ _ => trivial));have HK3:=A0_.mk (HGS11.out.kr.grown hg3 (fun k e => Kd.R_base HROW.out k e) (Nat.le_of_lt HRL.out));have HRD3:=A0_.mk (HGS11.out.sd.grown hg3 (fun e => by have:=Kd.R_base HROW.out R e.symm;have:=HRL.out;omega));clear hr3 hb3 hg3 hat3)
          go_step3
          show ∃ m',m' < m ∧ JG w R a0 n s res m' 0 _ _
          exact ⟨n - k,by have:=HK.out;have:=HLT.out;omega,JG.next (k:=k + 1) rfl (by have:=HLT.out;omega) (by have:=HLT.out;omega) (by rw [List.length_append,HAL.out];rfl) HYLE.out.2.1 HR3.out HK3.out HRD3.out HRES2.out⟩
  |1,hJ =>
   obtain ⟨f,v7,v8,pk,rfl,HKR,HSDW,HR⟩:=hJ
   refine ⟨_,rfl,?_⟩
   have c1 : wr.cell? ⟨R,1,none⟩ = some (.int .i64 (pk : Int)):=bC_ HSDW.out 1
   have c2 : wr.cell? ⟨R,2,none⟩ = some (.int .i64 (-1)):=bC_ HSDW.out 2
   have z2:=bF_ HSDW.out 2
   have hr:=HR.out
   subst hr
   go_wp2
   refine JumpTo.ret ?_
   go_ret
   exact ⟨_,[],_,rfl,Kd.R_nil _ _ _ _ _,HSDW.out.bad (pk : Int),HKR.out.trans (KR.set wr R 2 _)⟩
end Go.Proofs.YtdmngdohlobogaaGreatDoor.Asc

