import Derived.Test.YtojepjkpnponoaaDoorFStim9
import Derived.IntWalk
set_option linter.unusedSimpArgs false
namespace Go.Proofs.YtojepjkpnponoaaDoor.Stim
open Go Go.RowKit Go.Proofs.YtojepjkpnponoaaDoorW.PrintWords
set_option linter.unusedVariables false
def Ev {α : Type} (g : Nat → Option α) (r : α) : Prop:=∃ K,∀ k,K ≤ k → g k = some r
theorem Ev.const {α : Type} (r : α) : Ev (fun _ => some r) r:=⟨0,fun _ _ => rfl⟩
theorem Ev.succ {α : Type} {g h : Nat → Option α} {r : α} (hg : ∀ k,g (k + 1) = h k) (hh : Ev h r) : Ev g r:=by
 obtain ⟨K,hK⟩:=hh
 refine ⟨K + 1,fun k hk => ?_⟩
 obtain ⟨j,rfl⟩ : ∃ j,k = j + 1:=⟨k - 1,by omega⟩
 rw [hg,hK j (by omega)]
theorem Ev.congr {α : Type} {g h : Nat → Option α} {r : α} (hg : ∀ k,g k = h k) (hh : Ev h r) : Ev g r:=by
 obtain ⟨K,hK⟩:=hh
 exact ⟨K,fun k hk => by rw [hg,hK k hk]⟩
theorem Ev.bind {α β : Type} {f : Nat → Option α} {g : Nat → α → Option β} {a : α} {r : β} (hf : Ev f a) (hg : Ev (fun k => g k a) r) : Ev (fun k => (f k).bind (g k)) r:=by
 obtain ⟨K,hK⟩:=hf
 obtain ⟨J,hJ⟩:=hg
 exact ⟨K + J,fun k hk => by show (f k).bind (g k) = _;rw [hK k (by omega)];exact hJ k (by omega)⟩
theorem wrapS {x : Int} (h0 : -9223372036854775808 ≤ x) (h1 : x ≤ 9223372036854775807) : wrap64 x = x:=IntWalk.wrap64_in x ⟨h0,h1⟩
theorem wrapN (n : Nat) (h : n < 140737488355328) : wrap64 ((n : Int) + 1) = ((n + 1 : Nat) : Int):=by rw [wrapS (by omega) (by omega)];rfl
theorem rdL6 (l : List (List Bool)) (i : Nat) (h : i < l.length) : rd_L6 l (i : Int) = l[i]:=by simp [rd_L6,h]
theorem bools_loop (a : List Bool) (ha : a.length < 140737488355328) (m : Nat) : ∀ i,i + m = a.length → Ev (fun k => trestlebook_SameBools.l0 k a a (i : Int)) true:=by
 induction m with
 |zero =>
  intro i hi
  refine Ev.succ (h:=fun _ => some true) (fun k => ?_) (Ev.const _)
  rw [trestlebook_SameBools.l0,if_neg (by omega)]
 |succ m ih =>
  intro i hi
  refine Ev.succ (fun k => ?_) (ih (i + 1) (by omega))
  rw [trestlebook_SameBools.l0,if_pos (by omega),if_pos (by omega),if_pos (by omega),if_neg (by simp),wrapN i (by omega)]
theorem bools_ev (a : List Bool) (ha : a.length < 140737488355328) : Ev (fun k => trestlebook_SameBools.f k a a) true:=by
 refine Ev.congr (fun k => ?_) (bools_loop a ha a.length 0 (by omega))
 unfold trestlebook_SameBools.f
 rw [if_pos rfl]
 rfl
theorem traces_loop (a : List Bool) (b : List (List Bool)) (c : Int) (hb : b.length < 140737488355328) (hr : ∀ r ∈ b,r.length < 140737488355328) (m : Nat) : ∀ i,i + m = b.length → Ev (fun k => book_ST.l0 k (i : Int) a b c a b c) true:=by
 induction m with
 |zero =>
  intro i hi
  refine Ev.succ (h:=fun _ => some true) (fun k => ?_) (Ev.const _)
  rw [book_ST.l0,if_neg (by omega)]
 |succ m ih =>
  intro i hi
  have hlt : i < b.length:=by omega
  refine Ev.succ (h:=fun k => (trestlebook_SameBools.f k b[i] b[i]).bind fun t => if t = true then book_ST.l0 k ((i + 1 : Nat) : Int) a b c a b c else none) (fun k => ?_) (Ev.bind (bools_ev _ (hr _ (List.getElem_mem hlt))) (Ev.congr (fun k => if_pos rfl) (ih (i + 1) (by omega))))
  rw [book_ST.l0,if_pos (by omega),if_pos (by omega),if_pos (by omega),rdL6 b i hlt,wrapN i (by omega)]
theorem traces_ev (a : List Bool) (b : List (List Bool)) (c : Int) (ha : a.length < 140737488355328) (hb : b.length < 140737488355328) (hr : ∀ r ∈ b,r.length < 140737488355328) : Ev (fun k => book_ST.f k a b c a b c) true:=by
 refine Ev.congr (h:=fun k => (trestlebook_SameBools.f k a a).bind fun t => if t = true then book_ST.j0 k false a b c a b c else book_ST.j0 k true a b c a b c) (fun k => ?_) (Ev.bind (bools_ev a ha) (Ev.congr (fun k => if_pos rfl) ?_))
 ·unfold book_ST.f
  rw [if_pos rfl]
  simp
 ·refine Ev.succ (fun k => ?_) (traces_loop a b c hb hr b.length 0 (by omega))
  rw [book_ST.j0,if_neg (by decide)]
  rfl
theorem same_loop (s : Int) (p : List S83) (a : List Bool) (b : List (List Bool)) (c : Int) (hp : p.length < 140737488355328) (m : Nat) : ∀ i,i + m = p.length → Ev (fun k => trestlelaw12_same.l0 k (i : Int) s p a b c s p a b c) true:=by
 induction m with
 |zero =>
  intro i hi
  refine Ev.succ (h:=fun _ => some true) (fun k => ?_) (Ev.const _)
  rw [trestlelaw12_same.l0,if_neg (by omega)]
 |succ m ih =>
  intro i hi
  refine Ev.succ (fun k => ?_) (ih (i + 1) (by omega))
  rw [trestlelaw12_same.l0,if_pos (by omega),if_pos (by omega),if_pos (by omega),if_neg (by simp),wrapN i (by omega)]
theorem same_ev (s : Int) (p : List S83) (a : List Bool) (b : List (List Bool)) (c : Int) (hp : p.length < 140737488355328) (ha : a.length < 140737488355328) (hb : b.length < 140737488355328) (hr : ∀ r ∈ b,r.length < 140737488355328) : Ev (fun k => trestlelaw12_same.f k s p a b c s p a b c) true:=by
 refine Ev.congr (h:=fun k => (book_ST.f k a b c a b c).bind fun t => trestlelaw12_same.j0 k (!t) s p a b c s p a b c) (fun k => ?_) (Ev.bind (traces_ev a b c ha hb hr) ?_)
 ·unfold trestlelaw12_same.f
  rw [if_pos rfl,if_pos rfl]
 ·refine Ev.succ (fun k => ?_) (same_loop s p a b c hp p.length 0 (by omega))
  rw [trestlelaw12_same.j0,if_neg (by decide)]
  rfl
end Go.Proofs.YtojepjkpnponoaaDoor.Stim

