import Derived.Test.YtifigmamaakigaaDoorBV1
import Derived.ProofKit
import Derived.SizedLaws
import Derived.OpenShut
set_option linter.unusedSimpArgs false
namespace Go.Proofs.YtifigmamaakigaaDoor.V
open Go Go.RowKit Go.WideShapes Go.Proofs.YtifigmamaakigaaDoorW.PrintWords
set_option linter.unusedVariables false
set_option maxRecDepth 100000
section
variable {H : Type} {enc : TypeId × Value → H} {W : World} {base : Nat} {sp : Nat → Bool} {held : Bool}
def Fits (t : TypeId) (d : DataW H) : Prop:=∀ x ∈ DataW.weights Tryd.prog t d,x ≤ reachBytes
theorem weightsAll_mem {e : TypeId} : ∀ {l : List (DataW H)} {d : DataW H},d ∈ l → ∀ x ∈ DataW.weights Tryd.prog e d,x ∈ DataW.weightsAll Tryd.prog e l
  | d' :: l,d,h,x,hx => by
    unfold DataW.weightsAll
    rcases List.mem_cons.1 h with rfl|h
    · exact List.mem_append_left _ hx
    · exact List.mem_append_right _ (weightsAll_mem h x hx)
theorem weightsEach_at {ts : List TypeId} : ∀ {i : Nat} {ds : List (DataW H)} {t : TypeId} {d : DataW H},ts[i]? = some t → ds[i]? = some d → ∀ x ∈ DataW.weights Tryd.prog t d,x ∈ DataW.weightsEach Tryd.prog ts ds:=by
  induction ts with
  | nil => intro i ds t d h;simp at h
  | cons t0 ts ih =>
    intro i ds t d h1 h2 x hx
    cases ds with
    | nil => simp at h2
    | cons d0 ds =>
      unfold DataW.weightsEach
      cases i with
      | zero =>
        simp at h1 h2
        subst h1
        subst h2
        exact List.mem_append_left _ hx
      | succ i => exact List.mem_append_right _ (ih (by simpa using h1) (by simpa using h2) x hx)
theorem reads_row {α : Type} (d : Kd α) (Pr : α → Prop) {t e : TypeId} {fuel : Nat} {cs : List Value} {x : DataW H × List MemPlace} (ht : Tryd.prog.underlying t = some (.slice e)) (hc : Tryd.prog.cellsOf e = d.sz)
    (hel : ∀ (n : Nat) (cs : List Value) (y : DataW H × List MemPlace),DataW.trod enc Tryd.prog W base sp held n e cs = some y → Fits e y.1 → ∃ a,d.K W a cs ∧ Pr a)
    (h : DataW.trod enc Tryd.prog W base sp held fuel t cs = some x) (hf : Fits t x.1) :
    ∃ (A : Option Addr) (c : Nat) (l : List α),cs = [.slice A l.length c] ∧ l.length ≤ c ∧ d.C W A l.length l ∧ l.length * Tryd.prog.bytesOf e ≤ reachBytes ∧ ∀ a ∈ l,Pr a:=by
  rcases DataW.trod_slice ht h with ⟨rfl,rfl⟩|⟨ad,len,cap,elems,rest,n,rfl,rfl,rfl,_,hl,hm,hlen,hcell,_,_⟩
  · refine ⟨none,0,[],rfl,Nat.le_refl _,⟨rfl,by simp,fun h => absurd h (by simp)⟩,by simp,fun a ha => by cases ha⟩
  · have hw : ∀ y ∈ elems,Fits e y.1:=by
      intro y hy z hz
      refine hf z ?_
      unfold DataW.weights
      rw [ht]
      exact List.mem_cons_of_mem _ (List.mem_append_left _ (weightsAll_mem (List.mem_map.2 ⟨y,hy,rfl⟩) z hz))
    have hsz : len * Tryd.prog.bytesOf e ≤ reachBytes:=by
      have:=hf ((elems.length + rest.length) * Tryd.prog.bytesOf e) (by unfold DataW.weights;rw [ht];simp)
      exact Nat.le_trans (Nat.mul_le_mul_right _ (by omega)) this
    have hex : ∀ i : Fin len,∃ a : α,Pr a ∧ ∃ c,c.length = d.sz ∧ d.K W a c ∧ ∀ j u,c[j]? = some u → W.cell? (ad.add (i.1 * d.sz + j)) = some u:=by
      intro i
      have hE:=hcell i.1 i.2
      have hil : i.1 < elems.length:=by omega
      rw [List.getElem?_eq_getElem hil] at hE
      obtain ⟨c,hc1,hc2⟩:=Option.bind_eq_some_iff.1 hE
      obtain ⟨_,hcl,hcc⟩:=World.cells?_some hc1
      obtain ⟨a,hK,hP⟩:=hel n c _ hc2 (hw _ (List.getElem_mem hil))
      refine ⟨a,hP,c,by rw [hcl,hc],hK,fun j u hu => ?_⟩
      have hj : j < Tryd.prog.cellsOf e:=by rw [← hcl];exact (List.getElem?_eq_some_iff.1 hu).1
      have:=hcc j hj
      rw [hu,Addr.add_add,hc] at this
      exact this
    refine ⟨some ad,cap,List.ofFn fun i => Classical.choose (hex i),by simp,by simpa using hl,⟨rfl,by simp only [List.length_ofFn];simp only [maxLen] at hm;omega,fun _ => ⟨ad,rfl,fun j p hj => ?_⟩⟩,by simpa using hsz,fun a ha => ?_⟩
    · have hjl : j < len:=by simpa using (List.getElem?_eq_some_iff.1 hj).1
      have hp : p = Classical.choose (hex ⟨j,hjl⟩):=by
        have:=(List.getElem?_eq_some_iff.1 hj).2
        rw [← this]
        simp
      rw [hp]
      exact (Classical.choose_spec (hex ⟨j,hjl⟩)).2
    · obtain ⟨i,rfl⟩:=List.mem_ofFn.1 ha
      exact (Classical.choose_spec (hex i)).1
theorem reads_rowR {n : Nat} {cs : List Value} {y : DataW H × List MemPlace} (h : DataW.trod enc Tryd.prog W base sp held n 31 cs = some y) : ∃ a,kR.K W a cs ∧ True:=by
  obtain ⟨xs,m,rfl,rfl,hl,hx,hfs⟩:=DataW.trod_struct Tryd.underlying31 h
  have c31 : Tryd.prog.cellsOf 31 = 5:=by kernel_rfl
  have c29 : Tryd.prog.cellsOf 29 = 2:=by kernel_rfl
  have c9 : Tryd.prog.cellsOf 9 = 1:=by kernel_rfl
  have c5 : Tryd.prog.cellsOf 5 = 1:=by kernel_rfl
  have c3 : Tryd.prog.cellsOf 3 = 1:=by kernel_rfl
  rw [c31] at hl
  match cs,hl with
  | [a,b,c,d,e],_ =>
    match xs,hx with
    | [x0,x1,x2,x3],_ =>
      have h0 : DataW.trod enc Tryd.prog W base sp held m 29 (([a,b,c,d,e].drop 0).take (Tryd.prog.cellsOf 29)) = some x0:=hfs 0 _ rfl
      have h1 : DataW.trod enc Tryd.prog W base sp held m 9 (([a,b,c,d,e].drop 2).take (Tryd.prog.cellsOf 9)) = some x1:=hfs 1 _ rfl
      have h2 : DataW.trod enc Tryd.prog W base sp held m 3 (([a,b,c,d,e].drop 3).take (Tryd.prog.cellsOf 3)) = some x2:=hfs 2 _ rfl
      have h3 : DataW.trod enc Tryd.prog W base sp held m 3 (([a,b,c,d,e].drop 4).take (Tryd.prog.cellsOf 3)) = some x3:=hfs 3 _ rfl
      rw [c29] at h0
      rw [c9] at h1
      rw [c3] at h2 h3
      obtain ⟨ys,m2,rfl,hye,_,hy,hgs⟩:=DataW.trod_struct Tryd.underlying29 h0
      match ys,hy with
      | [y0,y1],_ =>
        have j0 : DataW.trod enc Tryd.prog W base sp held m2 5 ((((List.drop 0 [a,b,c,d,e]).take 2).drop 0).take (Tryd.prog.cellsOf 5)) = some y0:=hgs 0 _ rfl
        have j1 : DataW.trod enc Tryd.prog W base sp held m2 3 ((((List.drop 0 [a,b,c,d,e]).take 2).drop 1).take (Tryd.prog.cellsOf 3)) = some y1:=hgs 1 _ rfl
        rw [c5] at j0
        rw [c3] at j1
        obtain ⟨k0,e0,_⟩:=DataW.trod_int Tryd.underlying5 j0
        obtain ⟨k1,e1,_⟩:=DataW.trod_int Tryd.underlying3 j1
        obtain ⟨s,e2,_⟩:=DataW.trod_string Tryd.underlying9 h1
        obtain ⟨k3,e3,_⟩:=DataW.trod_int Tryd.underlying3 h2
        obtain ⟨k4,e4,_⟩:=DataW.trod_int Tryd.underlying3 h3
        simp at e0 e1 e2 e3 e4
        subst e0 e1 e2 e3 e4
        exact ⟨⟨k0,k1,s,k3,k4⟩,kR_mk W _,trivial⟩
theorem open_rows {r : Reach} {b0 : Nat} {v : Value} {dt : DataW H} {p : List MemPlace} (hv : Value.okWide Tryd.prog W r b0 22 v) (h : DataW.Trod enc Tryd.prog W base sp held 22 v dt p) (hf : Fits 22 dt) :
    ∃ (A : Option Addr) (c : Nat) (l : List RW),v = .slice A l.length c ∧ Kd.C kR W A l.length l ∧ l.length ≤ c:=by
  obtain ⟨A0,len0,cap0,rfl⟩:=okWide_slice Tryd.underlying22 hv
  obtain ⟨m0,hm0⟩:=h
  obtain ⟨A,c,l,e,hlc,hC,hb,_⟩:=reads_row kR (fun _ => True) Tryd.underlying22 (by kernel_rfl) (fun n cs y h _ => reads_rowR h) hm0 hf
  have e' : Value.slice A0 len0 cap0 = .slice A l.length c:=by simpa [Value.cells] using e
  exact ⟨A,c,l,e',hC,hlc⟩
end
end Go.Proofs.YtifigmamaakigaaDoor.V

