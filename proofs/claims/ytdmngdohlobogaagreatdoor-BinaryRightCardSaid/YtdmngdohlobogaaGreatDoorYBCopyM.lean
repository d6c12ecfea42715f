import Derived.Test.YtdmngdohlobogaaGreatDoorYM34
import Derived.Test.YtdmngdohlobogaaGreatDoorYABodyM
namespace Go.Proofs.YtdmngdohlobogaaGreatDoor.Asc
open Go Go.RowKit Go.Proofs.YtdmngdohlobogaaGreatDoorW.PrintWords Go.Proofs.YtdmngdohlobogaaGreatDoorW.PrintLast Go.Proofs.YtdmngdohlobogaaGreatDoorW.PrintMore
set_option linter.unusedVariables false
set_option linter.unusedSimpArgs false
structure Rw where
 α : Type
 d : Kd α
 e : Nat
 v : Value
 xs : List α
 ok : ∀ q,q ∈ e :: d.E → q ≠ 29 ∧ q ≠ 22
def Rw.at (W : World) (g0 : Nat) (r : Rw) : Prop:=r.d.R r.e W g0 (fun _ => True) r.v r.xs
def AllR (W : World) (g0 : Nat) (l : List Rw) : Prop:=∀ r ∈ l,r.at W g0
theorem AllR.nil (W : World) (g0 : Nat) : AllR W g0 []:=fun _ h => by cases h
theorem AllR.cons {W : World} {g0 : Nat} {l : List Rw} {r : Rw} (h : AllR W g0 l) (hr : r.at W g0) : AllR W g0 (r :: l):=fun q hq => by
 rcases List.mem_cons.1 hq with rfl|hq
 ·exact hr
 ·exact h q hq
theorem AllR.below {W W1 : World} {g0 : Nat} {l : List Rw} (h : AllR W g0 l) (hb : Below W.heap.size W W1) : AllR W1 g0 l:=fun r hr => Kd.R_below (h r hr) hb
theorem AllR.set29 {W : World} {g0 g j : Nat} {l : List Rw} {cells : Array Value} (h : AllR W g0 l) (hb : W.heap[g]? = some (.cells cells 29 (0,0))) (u : Value) : AllR (W.setCell ⟨g,j,none⟩ u) g0 l:=fun r hr => Kd.R_set (h r hr) hb (fun q hq => (r.ok q hq).1) j u
theorem AllR.set22 {W : World} {g0 g j : Nat} {l : List Rw} {cells : Array Value} (h : AllR W g0 l) (hb : W.heap[g]? = some (.cells cells 22 (0,0))) (u : Value) : AllR (W.setCell ⟨g,j,none⟩ u) g0 l:=fun r hr => Kd.R_set (h r hr) hb (fun q hq => (r.ok q hq).2) j u
abbrev rI (v : Value) (l : List Int) : Rw:=⟨Int,Kd.int .i64,3,v,l,by decide⟩
abbrev rL (v : Value) (l : List S108) : Rw:=⟨S108,k108,61,v,l,by decide⟩
abbrev rA (v : Value) (l : List S125) : Rw:=⟨S125,k125,75,v,l,by decide⟩
abbrev rS (v : Value) (l : List S59) : Rw:=⟨S59,k59,77,v,l,by decide⟩
abbrev rT (v : Value) (l : List ByteArray) : Rw:=⟨ByteArray,Kd.string,9,v,l,by decide⟩
structure RawAt (W : World) (x : List Int) (p : Option Addr × Nat × Nat) : Prop where
 n : p.2.1 = x.length
 c : x.length ≤ p.2.2
 rd : Kd.C (Kd.int .i64) W p.1 x.length x
theorem RawAt.below {W W1 : World} {x : List Int} {p : Option Addr × Nat × Nat} (h : RawAt W x p) (hb : Below W.heap.size W W1) : RawAt W1 x p:=⟨h.n,h.c,Kd.C_below h.rd hb⟩
theorem RawAt.lt {W : World} {x : List Int} {p : Option Addr × Nat × Nat} (h : RawAt W x p) : ∀ ad,p.1 = some ad → 0 < x.length → ad.block < W.heap.size:=fun ad e hn => by
 have hr:=h.rd
 rw [e] at hr
 exact Kd.C_lt hr hn (by decide)
theorem RawAt.set {W : World} {x : List Int} {p : Option Addr × Nat × Nat} (h : RawAt W x p) {g j : Nat} {u : Value} (hf : ∀ ad,p.1 = some ad → 0 < x.length → ad.block ≠ g) : RawAt (W.setCell ⟨g,j,none⟩ u) x p :=
 ⟨h.n,h.c,Kd.C_keep 0 h.rd ((KeepBut.refl W g none).set_ j u) hf⟩
theorem list_of {α : Type} {P : Nat → α → Prop} : ∀ n : Nat,(∀ j,j < n → ∃ p,P j p) → ∃ l : List α,l.length = n ∧ ∀ j p,l[j]? = some p → P j p
 |0,_ => ⟨[],rfl,fun j p h => by simp at h⟩
 |n + 1,h => by
  obtain ⟨l,hl,hp⟩:=list_of n (fun j hj => h j (by omega))
  obtain ⟨p,hpn⟩:=h n (by omega)
  refine ⟨l ++ [p],by simp [hl],fun j q hq => ?_⟩
  by_cases hj : j < n
  ·rw [List.getElem?_append_left (by omega)] at hq
   exact hp j q hq
  ·have hjn : j = n:=by
    have:=(List.getElem?_eq_some_iff.1 hq).1
    simp at this
    omega
   subst hjn
   rw [List.getElem?_append_right (by omega),hl] at hq
   simp at hq
   subst hq
   exact hpn
theorem raws_of {W : World} {A : Option Addr} {l : List (List Int)} (h : Kd.C (Kd.slice 3 (Kd.int .i64)) W A l.length l) : ∃ raws : List (Option Addr × Nat × Nat),Kd.C kraw W A l.length raws ∧ raws.length = l.length ∧ ∀ (i : Nat) (x : List Int) (p : Option Addr × Nat × Nat),l[i]? = some x → raws[i]? = some p → RawAt W x p:=by
 by_cases h0 : 0 < l.length
 ·obtain ⟨ad,rfl,hc⟩:=h.2.2 h0
  obtain ⟨raws,hl,hp⟩:=list_of (P:=fun j (p : Option Addr × Nat × Nat) => ∀ x,l[j]? = some x → RawAt W x p ∧ W.cell? (ad.add j) = some (.slice p.1 p.2.1 p.2.2)) l.length (fun j hj => by
   obtain ⟨cs,h1,⟨A1,c1,rfl,h2,h3⟩,h4⟩:=hc j _ (List.getElem?_eq_getElem hj)
   refine ⟨(A1,l[j].length,c1),fun x hx => ?_⟩
   rw [List.getElem?_eq_getElem hj] at hx
   injection hx with hx
   subst hx
   refine ⟨⟨rfl,h2,h3⟩,?_⟩
   have:=h4 0 _ rfl
   simpa [Kd.slice] using this)
  refine ⟨raws,⟨hl,h.2.1,fun _ => ⟨ad,rfl,fun j p hj => ⟨[.slice p.1 p.2.1 p.2.2],rfl,rfl,fun i u hu => ?_⟩⟩⟩,hl,fun i x p hx hp' => (hp i p hp' x hx).1⟩
  have hjl : j < l.length:=by have:=(List.getElem?_eq_some_iff.1 hj).1;omega
  have:=(hp j p hj _ (List.getElem?_eq_getElem hjl)).2
  rcases i with _|i
  ·simp at hu
   subst hu
   simpa [kraw,Kd.scalar] using this
  ·simp at hu
 ·have : l = []:=List.eq_nil_of_length_eq_zero (by omega)
  subst this
  refine ⟨[],⟨rfl,by simp,fun h => by simp at h⟩,rfl,fun i x p hx => by simp at hx⟩
def FT (W : World) (m0 k : Nat) : Prop:=k < m0 ∨ ∃ cells,W.heap[k]? = some (.cells cells 3 (0,0))
theorem FT.below {W W1 : World} {m0 k : Nat} (h : FT W m0 k) (hb : Below W.heap.size W W1) : FT W1 m0 k:=by
 rcases h with h|⟨cells,h⟩
 ·exact .inl h
 ·exact .inr ⟨cells,blk_below h hb⟩
theorem FT.ne {W : World} {m0 k g t : Nat} {cells : Array Value} (h : FT W m0 k) (hb : W.heap[g]? = some (.cells cells t (0,0))) (ht : 3 ≠ t) (hg : m0 ≤ g) : k ≠ g:=by
 rcases h with h|⟨cs,h⟩
 ·omega
 ·exact blk_ne h hb ht
theorem FT.set {W : World} {m0 k g j t : Nat} {cells : Array Value} (h : FT W m0 k) (hb : W.heap[g]? = some (.cells cells t (0,0))) (ht : 3 ≠ t) (u : Value) : FT (W.setCell ⟨g,j,none⟩ u) m0 k:=by
 rcases h with h|⟨cs,h⟩
 ·exact .inl h
 ·exact .inr ⟨cs,blk_far h (blk_ne h hb ht) u⟩
structure JB (W : World) (m0 g0 : Nat) (v : Value) (l : List (List Int)) (raws : List (Option Addr × Nat × Nat)) : Prop where
 own : kraw.R 22 W g0 (fun _ => True) v raws
 len : raws.length = l.length
 rd : ∀ (i : Nat) (x : List Int) (p : Option Addr × Nat × Nat),l[i]? = some x → raws[i]? = some p → RawAt W x p ∧ (∀ ad,p.1 = some ad → 0 < x.length → some ad.block ≠ v.ownBlock ∧ FT W m0 ad.block)
section
variable {W W1 : World} {m0 g0 g1 : Nat} {v : Value} {l : List (List Int)} {raws : List (Option Addr × Nat × Nat)}
theorem JB.below (h : JB W m0 g0 v l raws) (hb : Below W.heap.size W W1) : JB W1 m0 g0 v l raws :=
 ⟨Kd.R_below h.own hb,h.len,fun i x p hx hp => ⟨(h.rd i x p hx hp).1.below hb,fun ad e hn => ⟨((h.rd i x p hx hp).2 ad e hn).1,((h.rd i x p hx hp).2 ad e hn).2.below hb⟩⟩⟩
theorem JB.lower (h : JB W m0 g0 v l raws) (hg : g1 ≤ g0) : JB W m0 g1 v l raws:=⟨Kd.R_lower h.own hg,h.len,h.rd⟩
theorem kraw_E : ∀ q,q ∈ 22 :: kraw.E → q ≠ 29:=by decide
theorem JB.set29 {g j : Nat} {cells : Array Value} (h : JB W m0 g0 v l raws) (hb : W.heap[g]? = some (.cells cells 29 (0,0))) (hg : m0 ≤ g) (u : Value) : JB (W.setCell ⟨g,j,none⟩ u) m0 g0 v l raws :=
 ⟨Kd.R_set h.own hb kraw_E j u,h.len,fun i x p hx hp => ⟨(h.rd i x p hx hp).1.set (fun ad e hn => ((h.rd i x p hx hp).2 ad e hn).2.ne hb (by decide) hg),fun ad e hn => ⟨((h.rd i x p hx hp).2 ad e hn).1,((h.rd i x p hx hp).2 ad e hn).2.set hb (by decide) u⟩⟩⟩
theorem JB.blk {n cap : Nat} (h : JB W m0 g0 (.slice (some ⟨g1,0,none⟩) n cap) l raws) : ∃ cells,W.heap[g1]? = some (.cells cells 22 (0,0)):=Kd.R_typed h.own g1 rfl
theorem JB.put {g n cap : Nat} (h : JB W m0 g0 (.slice (some ⟨g,0,none⟩) n cap) l raws) {i : Nat} {x : List Int} (hx : l[i]? = some x) {p : Option Addr × Nat × Nat} (hp : RawAt W x p) (hf : ∀ ad,p.1 = some ad → 0 < x.length → ad.block ≠ g ∧ FT W m0 ad.block) :
  JB (W.setCell ⟨g,i,none⟩ (.slice p.1 p.2.1 p.2.2)) m0 g0 (.slice (some ⟨g,0,none⟩) n cap) l (raws.set i p):=by
 have h1:=Kd.R_putn (enc:=fun p : Option Addr × Nat × Nat => Value.slice p.1 p.2.1 p.2.2) (h1:=fun _ => rfl) h.own (i : Int) p
 obtain ⟨cs,hb⟩:=h.blk
 refine ⟨h1,by rw [List.length_set];exact h.len,fun j y q hy hq => ?_⟩
 rw [List.getElem?_set] at hq
 by_cases hij : i = j
 ·subst hij
  rw [hx] at hy
  injection hy with hy
  subst hy
  rw [if_pos rfl] at hq
  split at hq
  ·injection hq with hq
   subst hq
   exact ⟨hp.set (fun ad e hn => (hf ad e hn).1),fun ad e hn => ⟨by simp only [Value.ownBlock];intro he;injection he with he;exact (hf ad e hn).1 he,(hf ad e hn).2.set hb (by decide) _⟩⟩
  ·cases hq
 ·rw [if_neg hij] at hq
  obtain ⟨h2,h3⟩:=h.rd j y q hy hq
  refine ⟨h2.set (fun ad e hn he => (h3 ad e hn).1 (by simp only [Value.ownBlock];rw [he])),fun ad e hn => ⟨(h3 ad e hn).1,(h3 ad e hn).2.set hb (by decide) _⟩⟩
theorem JB.form (h : JB W m0 g0 v l raws) (hn : 0 < l.length) : ∃ g cap,v = .slice (some ⟨g,0,none⟩) l.length cap ∧ g0 ≤ g ∧ g < W.heap.size:=by
 have h1:=h.own
 have h2:=h.len
 obtain ⟨g,cap,rfl,hg,hlt,_⟩:=Kd.R_form h1 (by omega)
 exact ⟨g,cap,by rw [h2],hg,hlt⟩
theorem JB.cell {g n cap : Nat} (h : JB W m0 g0 (.slice (some ⟨g,0,none⟩) n cap) l raws) {i : Nat} (hi : i < l.length) (hn : n = l.length) : (∃ u,W.cell? ⟨g,i,none⟩ = some u) ∧ W.frozen? ⟨g,i,none⟩ = false:=by
 have h1:=Kd.R_celln (enc:=fun p : Option Addr × Nat × Nat => Value.slice p.1 p.2.1 p.2.2) (h1:=fun _ => rfl) (none,0,0) h.own (i : Int) (by omega) (by omega)
 exact ⟨⟨_,h1.1⟩,h1.2⟩
theorem JB.reads {n cap : Nat} {A : Option Addr} (h : JB W m0 g0 (.slice A n cap) l raws) : Kd.C (Kd.slice 3 (Kd.int .i64)) W A l.length l:=by
 obtain ⟨_,_,hC⟩:=Kd.R_reads' h.own
 refine ⟨rfl,by have:=hC.2.1;rw [h.len] at this;exact this,fun hn => ?_⟩
 obtain ⟨ad,e,hc⟩:=hC.2.2 (by rw [h.len];exact hn)
 refine ⟨ad,e,fun j x hj => ?_⟩
 have hjl : j < raws.length:=by have:=(List.getElem?_eq_some_iff.1 hj).1;rw [h.len];exact this
 obtain ⟨cs,h1,h2,h3⟩:=hc j _ (List.getElem?_eq_getElem hjl)
 obtain ⟨hr,_⟩:=h.rd j x _ hj (List.getElem?_eq_getElem hjl)
 obtain rfl : cs = [.slice raws[j].1 raws[j].2.1 raws[j].2.2]:=h2
 refine ⟨[.slice raws[j].1 raws[j].2.1 raws[j].2.2],rfl,⟨raws[j].1,raws[j].2.2,by rw [hr.n],hr.c,hr.rd⟩,fun i u hu => ?_⟩
 have:=h3 i u hu
 simpa [kraw,Kd.scalar,Kd.slice] using this
theorem JB.set11 {S : Nat} {x0 x1 x2 x3 x4 x5 x6 x7 x8 x9 x10 : Value} (h : JB W m0 g0 v l raws) (hb : W.heap[S]? = some (.cells #[x0,x1,x2,x3,x4,x5,x6,x7,x8,x9,x10] 29 (0,0))) (hg : m0 ≤ S) (a0 a1 a2 a3 a4 a5 a6 a7 a8 a9 a10 : Value) : JB ((((((((((((W).setCell ⟨S,0,none⟩ a0).setCell ⟨S,1,none⟩ a1).setCell ⟨S,2,none⟩ a2).setCell ⟨S,3,none⟩ a3).setCell ⟨S,4,none⟩ a4).setCell ⟨S,5,none⟩ a5).setCell ⟨S,6,none⟩ a6).setCell ⟨S,7,none⟩ a7).setCell ⟨S,8,none⟩ a8).setCell ⟨S,9,none⟩ a9).setCell ⟨S,10,none⟩ a10) m0 g0 v l raws:=by
 have h0:=h.set29 (j:=0) hb hg a0
 have b0:=blk_set hb 0 a0
 have h1:=h0.set29 (j:=1) b0 hg a1
 have b1:=blk_set b0 1 a1
 have h2:=h1.set29 (j:=2) b1 hg a2
 have b2:=blk_set b1 2 a2
 have h3:=h2.set29 (j:=3) b2 hg a3
 have b3:=blk_set b2 3 a3
 have h4:=h3.set29 (j:=4) b3 hg a4
 have b4:=blk_set b3 4 a4
 have h5:=h4.set29 (j:=5) b4 hg a5
 have b5:=blk_set b4 5 a5
 have h6:=h5.set29 (j:=6) b5 hg a6
 have b6:=blk_set b5 6 a6
 have h7:=h6.set29 (j:=7) b6 hg a7
 have b7:=blk_set b6 7 a7
 have h8:=h7.set29 (j:=8) b7 hg a8
 have b8:=blk_set b7 8 a8
 have h9:=h8.set29 (j:=9) b8 hg a9
 have b9:=blk_set b8 9 a9
 have h10:=h9.set29 (j:=10) b9 hg a10
 have b10:=blk_set b9 10 a10
 exact h10
theorem AllR.set11 {rs : List Rw} {S : Nat} {x0 x1 x2 x3 x4 x5 x6 x7 x8 x9 x10 : Value} (h : AllR W g0 rs) (hb : W.heap[S]? = some (.cells #[x0,x1,x2,x3,x4,x5,x6,x7,x8,x9,x10] 29 (0,0))) (a0 a1 a2 a3 a4 a5 a6 a7 a8 a9 a10 : Value) : AllR ((((((((((((W).setCell ⟨S,0,none⟩ a0).setCell ⟨S,1,none⟩ a1).setCell ⟨S,2,none⟩ a2).setCell ⟨S,3,none⟩ a3).setCell ⟨S,4,none⟩ a4).setCell ⟨S,5,none⟩ a5).setCell ⟨S,6,none⟩ a6).setCell ⟨S,7,none⟩ a7).setCell ⟨S,8,none⟩ a8).setCell ⟨S,9,none⟩ a9).setCell ⟨S,10,none⟩ a10) g0 rs:=by
 have h0:=h.set29 (j:=0) hb a0
 have b0:=blk_set hb 0 a0
 have h1:=h0.set29 (j:=1) b0 a1
 have b1:=blk_set b0 1 a1
 have h2:=h1.set29 (j:=2) b1 a2
 have b2:=blk_set b1 2 a2
 have h3:=h2.set29 (j:=3) b2 a3
 have b3:=blk_set b2 3 a3
 have h4:=h3.set29 (j:=4) b3 a4
 have b4:=blk_set b3 4 a4
 have h5:=h4.set29 (j:=5) b4 a5
 have b5:=blk_set b4 5 a5
 have h6:=h5.set29 (j:=6) b5 a6
 have b6:=blk_set b5 6 a6
 have h7:=h6.set29 (j:=7) b6 a7
 have b7:=blk_set b6 7 a7
 have h8:=h7.set29 (j:=8) b7 a8
 have b8:=blk_set b7 8 a8
 have h9:=h8.set29 (j:=9) b8 a9
 have b9:=blk_set b8 9 a9
 have h10:=h9.set29 (j:=10) b9 a10
 have b10:=blk_set b9 10 a10
 exact h10
end
structure CP (W : World) (m0 g0 : Nat) (c : S65) (a : CA) : Prop where
 rows : AllR W g0 [rI (.slice a.A1 c.f1.length a.c1) c.f1,rL (.slice a.A2 c.f2.length a.c2) c.f2,rI (.slice a.A3 c.f3.length a.c3) c.f3,rI (.slice a.A4 c.f4.length a.c4) c.f4,rI (.slice a.A5 c.f5.length a.c5) c.f5,rI (.slice a.A7 c.f7.length a.c7) c.f7,rA (.slice a.A8 c.f8.length a.c8) c.f8,rS (.slice a.A9 c.f9.length a.c9) c.f9,rT (.slice a.A10 c.f10.length a.c10) c.f10]
 just : ∃ raws,JB W m0 g0 (.slice a.A6 c.f6.length a.c6) c.f6 raws
theorem CP.cr {W : World} {m0 g0 : Nat} {c : S65} {a : CA} (h : CP W m0 g0 c a) : CR W c a:=by
 obtain ⟨raws,hj⟩:=h.just
 have r:=h.rows
 exact ⟨(Kd.R_reads' (r _ (.head _))).2.2,(Kd.R_reads' (r _ (.tail _ (.head _)))).2.2,(Kd.R_reads' (r _ (.tail _ (.tail _ (.head _))))).2.2,(Kd.R_reads' (r _ (.tail _ (.tail _ (.tail _ (.head _)))))).2.2,(Kd.R_reads' (r _ (.tail _ (.tail _ (.tail _ (.tail _ (.head _))))))).2.2,hj.reads,(Kd.R_reads' (r _ (.tail _ (.tail _ (.tail _ (.tail _ (.tail _ (.head _)))))))).2.2,(Kd.R_reads' (r _ (.tail _ (.tail _ (.tail _ (.tail _ (.tail _ (.tail _ (.head _))))))))).2.2,(Kd.R_reads' (r _ (.tail _ (.tail _ (.tail _ (.tail _ (.tail _ (.tail _ (.tail _ (.head _)))))))))).2.2,(Kd.R_reads' (r _ (.tail _ (.tail _ (.tail _ (.tail _ (.tail _ (.tail _ (.tail _ (.tail _ (.head _))))))))))).2.2⟩
theorem CP.below {W W1 : World} {m0 g0 : Nat} {c : S65} {a : CA} (h : CP W m0 g0 c a) (hb : Below W.heap.size W W1) : CP W1 m0 g0 c a:=by
 obtain ⟨raws,hj⟩:=h.just
 exact ⟨h.rows.below hb,raws,hj.below hb⟩
structure CS (w W : World) (c : S65) (a : CA) (b1 b2 b3 : Nat) (cells : Array Value) : Prop where
 below : Below w.heap.size w W
 x1 : BX W b1 c a
 x2 : W.heap[b2]? = some (.cells #[.int .i64 0,.slice none 0 0,.slice none 0 0,.slice none 0 0,.slice none 0 0,.slice none 0 0,.slice none 0 0,.slice none 0 0,.slice none 0 0,.slice none 0 0,.slice none 0 0] 29 (0,0))
 x3 : W.heap[b3]? = some (.cells cells 29 (0,0))
 l1 : w.heap.size ≤ b1
 l2 : w.heap.size ≤ b2
 l3 : w.heap.size ≤ b3
 n13 : b1 ≠ b3
 n23 : b2 ≠ b3
 n12 : b1 ≠ b2
theorem CS.call {w W W1 : World} {c : S65} {a : CA} {b1 b2 b3 : Nat} {cells : Array Value} (h : CS w W c a b1 b2 b3 cells) (hb : Below W.heap.size W W1) : CS w W1 c a b1 b2 b3 cells :=
 ⟨h.below.trans (lower_ h.below.size hb),h.x1.below hb,blk_below h.x2 hb,blk_below h.x3 hb,h.l1,h.l2,h.l3,h.n13,h.n23,h.n12⟩
theorem CS.put {w W : World} {c : S65} {a : CA} {b1 b2 b3 : Nat} {cells cells' : Array Value} (h : CS w W c a b1 b2 b3 cells) (i : Nat) (u : Value) (e : cells.setIfInBounds i u = cells') : CS w (W.setCell ⟨b3,i,none⟩ u) c a b1 b2 b3 cells' :=
 ⟨eS_ h.below h.l3,blk_far h.x1 h.n13 u,blk_far h.x2 h.n23 u,blk_put h.x3 i u e,h.l1,h.l2,h.l3,h.n13,h.n23,h.n12⟩
theorem CS.put22 {w W : World} {c : S65} {a : CA} {b1 b2 b3 g i : Nat} {cells cs : Array Value} (h : CS w W c a b1 b2 b3 cells) (hb : W.heap[g]? = some (.cells cs 22 (0,0))) (hg : w.heap.size ≤ g) (u : Value) : CS w (W.setCell ⟨g,i,none⟩ u) c a b1 b2 b3 cells :=
 ⟨eS_ h.below hg,blk_far h.x1 (blk_ne h.x1 hb (by decide)) u,blk_far h.x2 (blk_ne h.x2 hb (by decide)) u,blk_far h.x3 (blk_ne h.x3 hb (by decide)) u,h.l1,h.l2,h.l3,h.n13,h.n23,h.n12⟩
end Go.Proofs.YtdmngdohlobogaaGreatDoor.Asc

