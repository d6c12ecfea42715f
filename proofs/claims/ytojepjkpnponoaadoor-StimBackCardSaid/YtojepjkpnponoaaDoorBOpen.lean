import Derived.Test.YtojepjkpnponoaaDoorBStim0
import Derived.ProofKit
import Derived.SizedLaws
import Derived.OpenShut
set_option linter.unusedSimpArgs false
namespace Go.Proofs.YtojepjkpnponoaaDoor.Stim
open Go Go.RowKit Go.WideShapes Go.Proofs.YtojepjkpnponoaaDoorW.PrintWords
set_option linter.unusedVariables false
set_option maxRecDepth 100000
section
variable {H : Type} {enc : TypeId × Value → H} {W : World} {base : Nat} {sp : Nat → Bool} {held : Bool}
def Fits (t : TypeId) (d : DataW H) : Prop:=∀ x ∈ DataW.weights Tryd.prog t d,x ≤ reachBytes
theorem weightsAll_mem {e : TypeId} : ∀ {l : List (DataW H)} {d : DataW H},d ∈ l → ∀ x ∈ DataW.weights Tryd.prog e d,x ∈ DataW.weightsAll Tryd.prog e l
  | d' :: l,d,h,x,hx => by
    unfold DataW.weightsAll
    rcases List.mem_cons.1 h with rfl|h
    · exact List.mem_append_left _ hx
    · exact List.mem_append_right _ (weightsAll_mem h x hx)
theorem weightsEach_at {ts : List TypeId} : ∀ {i : Nat} {ds : List (DataW H)} {t : TypeId} {d : DataW H},ts[i]? = some t → ds[i]? = some d → ∀ x ∈ DataW.weights Tryd.prog t d,x ∈ DataW.weightsEach Tryd.prog ts ds:=by
  induction ts with
  | nil => intro i ds t d h;simp at h
  | cons t0 ts ih =>
    intro i ds t d h1 h2 x hx
    cases ds with
    | nil => simp at h2
    | cons d0 ds =>
      unfold DataW.weightsEach
      cases i with
      | zero =>
        simp at h1 h2
        subst h1
        subst h2
        exact List.mem_append_left _ hx
      | succ i => exact List.mem_append_right _ (ih (by simpa using h1) (by simpa using h2) x hx)
theorem fits_field {t : TypeId} {fs : Array Field} {parts : List (DataW H)} (ht : Tryd.prog.underlying t = some (.struct fs)) (h : Fits t (.agg parts)) {i : Nat} {f : Field} {d : DataW H} (hf : fs[i]? = some f) (hd : parts[i]? = some d) : Fits f.type d:=by
  intro x hx
  refine h x ?_
  unfold DataW.weights
  rw [ht]
  exact weightsEach_at (i:=i) (by simp [hf]) hd x hx
theorem reads_row {α : Type} (d : Kd α) (Pr : α → Prop) {t e : TypeId} {fuel : Nat} {cs : List Value} {x : DataW H × List MemPlace} (ht : Tryd.prog.underlying t = some (.slice e)) (hc : Tryd.prog.cellsOf e = d.sz)
    (hel : ∀ (n : Nat) (cs : List Value) (y : DataW H × List MemPlace),DataW.trod enc Tryd.prog W base sp held n e cs = some y → Fits e y.1 → ∃ a,d.K W a cs ∧ Pr a)
    (h : DataW.trod enc Tryd.prog W base sp held fuel t cs = some x) (hf : Fits t x.1) :
    ∃ (A : Option Addr) (c : Nat) (l : List α),cs = [.slice A l.length c] ∧ l.length ≤ c ∧ d.C W A l.length l ∧ l.length * Tryd.prog.bytesOf e ≤ reachBytes ∧ ∀ a ∈ l,Pr a:=by
  rcases DataW.trod_slice ht h with ⟨rfl,rfl⟩|⟨ad,len,cap,elems,rest,n,rfl,rfl,rfl,_,hl,hm,hlen,hcell,_,_⟩
  · refine ⟨none,0,[],rfl,Nat.le_refl _,⟨rfl,by simp,fun h => absurd h (by simp)⟩,by simp,fun a ha => by cases ha⟩
  · have hw : ∀ y ∈ elems,Fits e y.1:=by
      intro y hy z hz
      refine hf z ?_
      unfold DataW.weights
      rw [ht]
      exact List.mem_cons_of_mem _ (List.mem_append_left _ (weightsAll_mem (List.mem_map.2 ⟨y,hy,rfl⟩) z hz))
    have hsz : len * Tryd.prog.bytesOf e ≤ reachBytes:=by
      have:=hf ((elems.length + rest.length) * Tryd.prog.bytesOf e) (by unfold DataW.weights;rw [ht];simp)
      exact Nat.le_trans (Nat.mul_le_mul_right _ (by omega)) this
    have hex : ∀ i : Fin len,∃ a : α,Pr a ∧ ∃ c,c.length = d.sz ∧ d.K W a c ∧ ∀ j u,c[j]? = some u → W.cell? (ad.add (i.1 * d.sz + j)) = some u:=by
      intro i
      have hE:=hcell i.1 i.2
      have hil : i.1 < elems.length:=by omega
      rw [List.getElem?_eq_getElem hil] at hE
      obtain ⟨c,hc1,hc2⟩:=Option.bind_eq_some_iff.1 hE
      obtain ⟨_,hcl,hcc⟩:=World.cells?_some hc1
      obtain ⟨a,hK,hP⟩:=hel n c _ hc2 (hw _ (List.getElem_mem hil))
      refine ⟨a,hP,c,by rw [hcl,hc],hK,fun j u hu => ?_⟩
      have hj : j < Tryd.prog.cellsOf e:=by rw [← hcl];exact (List.getElem?_eq_some_iff.1 hu).1
      have:=hcc j hj
      rw [hu,Addr.add_add,hc] at this
      exact this
    refine ⟨some ad,cap,List.ofFn fun i => Classical.choose (hex i),by simp,by simpa using hl,⟨rfl,by simp only [List.length_ofFn];simp only [maxLen] at hm;omega,fun _ => ⟨ad,rfl,fun j p hj => ?_⟩⟩,by simpa using hsz,fun a ha => ?_⟩
    · have hjl : j < len:=by simpa using (List.getElem?_eq_some_iff.1 hj).1
      have hp : p = Classical.choose (hex ⟨j,hjl⟩):=by
        have:=(List.getElem?_eq_some_iff.1 hj).2
        rw [← this]
        simp
      rw [hp]
      exact (Classical.choose_spec (hex ⟨j,hjl⟩)).2
    · obtain ⟨i,rfl⟩:=List.mem_ofFn.1 ha
      exact (Classical.choose_spec (hex i)).1
theorem reads_bool {n : Nat} {cs : List Value} {y : DataW H × List MemPlace} (h : DataW.trod enc Tryd.prog W base sp held n 4 cs = some y) : ∃ a,Kd.bool.K W a cs ∧ True:=by
  obtain ⟨b,rfl,_⟩:=DataW.trod_bool Tryd.underlying4 h
  exact ⟨b,rfl,trivial⟩
theorem reads_prop {n : Nat} {cs : List Value} {y : DataW H × List MemPlace} (h : DataW.trod enc Tryd.prog W base sp held n 83 cs = some y) : ∃ a,k83.K W a cs ∧ True:=by
  obtain ⟨xs,m,rfl,rfl,hl,hx,hfs⟩:=DataW.trod_struct Tryd.underlying83 h
  have c83 : Tryd.prog.cellsOf 83 = 2:=by kernel_rfl
  have c5 : Tryd.prog.cellsOf 5 = 1:=by kernel_rfl
  have c3 : Tryd.prog.cellsOf 3 = 1:=by kernel_rfl
  rw [c83] at hl
  match cs,hl with
  | [a,b],_ =>
    match xs,hx with
    | [x0,x1],_ =>
      have h0 : DataW.trod enc Tryd.prog W base sp held m 5 (([a,b].drop 0).take (Tryd.prog.cellsOf 5)) = some x0:=hfs 0 _ rfl
      have h1 : DataW.trod enc Tryd.prog W base sp held m 3 (([a,b].drop 1).take (Tryd.prog.cellsOf 3)) = some x1:=hfs 1 _ rfl
      rw [c5] at h0
      rw [c3] at h1
      obtain ⟨k0,e0,_⟩:=DataW.trod_int Tryd.underlying5 h0
      obtain ⟨k1,e1,_⟩:=DataW.trod_int Tryd.underlying3 h1
      simp at e0 e1
      subst e0
      subst e1
      exact ⟨⟨k0,k1⟩,k83_mk W _,trivial⟩
theorem reads_rows {n : Nat} {cs : List Value} {y : DataW H × List MemPlace} (h : DataW.trod enc Tryd.prog W base sp held n 23 cs = some y) (hf : Fits 23 y.1) : ∃ a,(Kd.slice 4 Kd.bool).K W a cs ∧ a.length < 140737488355328:=by
  obtain ⟨A,c,l,rfl,hlc,hC,hb,_⟩:=reads_row Kd.bool (fun _ => True) Tryd.underlying23 (by kernel_rfl) (fun n cs y h _ => reads_bool h) h hf
  have b4 : Tryd.prog.bytesOf 4 = 1:=by kernel_rfl
  rw [b4] at hb
  simp only [reachBytes] at hb
  exact ⟨l,⟨A,c,rfl,hlc,hC⟩,by omega⟩
theorem open_witness {r : Reach} {b0 : Nat} {v : Value} {dt : DataW H} {p : List MemPlace} (hv : Value.okWide Tryd.prog W r b0 28 v) (h : DataW.Trod enc Tryd.prog W base sp held 28 v dt p) (hf : Fits 28 dt) :
    ∃ (st : Int) (A1 : Option Addr) (c1 : Nat) (l1 : List S83) (A2 : Option Addr) (c2 : Nat) (l2 : List Bool) (A3 : Option Addr) (c3 : Nat) (l3 : List (List Bool)) (loop : Int),v = .agg #[.int .i64 st,.slice A1 l1.length c1,.slice A2 l2.length c2,.slice A3 l3.length c3,.int .i64 loop] ∧
      Kd.C k83 W A1 l1.length l1 ∧ l1.length ≤ c1 ∧ Kd.C Kd.bool W A2 l2.length l2 ∧ l2.length ≤ c2 ∧ Kd.C (Kd.slice 4 Kd.bool) W A3 l3.length l3 ∧ l3.length ≤ c3 ∧
      l1.length < 8796093022208 ∧ l2.length < 140737488355328 ∧ l3.length < 5864062014805 ∧ ∀ r ∈ l3,r.length < 140737488355328:=by
  obtain ⟨cs,rfl,hsz⟩:=okWide_struct Tryd.underlying28 hv
  obtain ⟨fuel,hT⟩:=h
  obtain ⟨cs⟩:=cs
  have c28 : Tryd.prog.cellsOf 28 = 5:=by kernel_rfl
  have c22 : Tryd.prog.cellsOf 22 = 1:=by kernel_rfl
  have c23 : Tryd.prog.cellsOf 23 = 1:=by kernel_rfl
  have c24 : Tryd.prog.cellsOf 24 = 1:=by kernel_rfl
  have c26 : Tryd.prog.cellsOf 26 = 3:=by kernel_rfl
  have c3 : Tryd.prog.cellsOf 3 = 1:=by kernel_rfl
  rw [c28] at hsz
  obtain ⟨xs,m,rfl,hxe,_,hx,hfs⟩:=DataW.trod_struct Tryd.underlying28 hT
  obtain ⟨rfl,_⟩:=Prod.mk.inj hxe
  match cs,hsz with
  | [a,b,c,d,e],_ =>
    match xs,hx with
    | [x0,x1,x2],_ =>
      have h0 : DataW.trod enc Tryd.prog W base sp held m 3 (([a,b,c,d,e].drop 0).take (Tryd.prog.cellsOf 3)) = some x0:=hfs 0 _ rfl
      have h1 : DataW.trod enc Tryd.prog W base sp held m 22 (([a,b,c,d,e].drop 1).take (Tryd.prog.cellsOf 22)) = some x1:=hfs 1 _ rfl
      have h2 : DataW.trod enc Tryd.prog W base sp held m 26 (([a,b,c,d,e].drop 2).take (Tryd.prog.cellsOf 26)) = some x2:=hfs 2 _ rfl
      rw [c3] at h0
      rw [c22] at h1
      rw [c26] at h2
      have f1 : Fits 22 x1.1:=fits_field Tryd.underlying28 hf (i:=1) rfl rfl
      have f2 : Fits 26 x2.1:=fits_field Tryd.underlying28 hf (i:=2) rfl rfl
      obtain ⟨st,e0,_⟩:=DataW.trod_int Tryd.underlying3 h0
      obtain ⟨A1,k1,l1,e1,g1,C1,w1,_⟩:=reads_row k83 (fun _ => True) Tryd.underlying22 (by kernel_rfl) (fun n cs y h _ => reads_prop h) h1 f1
      obtain ⟨ys,m2,rfl,hye,_,hy,hgs⟩:=DataW.trod_struct Tryd.underlying26 h2
      obtain ⟨z,q⟩:=x2
      obtain ⟨rfl,_⟩:=Prod.mk.inj hye
      match ys,hy with
      | [y0,y1,y2],_ =>
        have j0 : DataW.trod enc Tryd.prog W base sp held m2 23 ((((List.drop 2 [a,b,c,d,e]).take 3).drop 0).take (Tryd.prog.cellsOf 23)) = some y0:=hgs 0 _ rfl
        have j1 : DataW.trod enc Tryd.prog W base sp held m2 24 ((((List.drop 2 [a,b,c,d,e]).take 3).drop 1).take (Tryd.prog.cellsOf 24)) = some y1:=hgs 1 _ rfl
        have j2 : DataW.trod enc Tryd.prog W base sp held m2 3 ((((List.drop 2 [a,b,c,d,e]).take 3).drop 2).take (Tryd.prog.cellsOf 3)) = some y2:=hgs 2 _ rfl
        rw [c23] at j0
        rw [c24] at j1
        rw [c3] at j2
        have i0 : Fits 23 y0.1:=fits_field Tryd.underlying26 f2 (i:=0) rfl rfl
        have i1 : Fits 24 y1.1:=fits_field Tryd.underlying26 f2 (i:=1) rfl rfl
        obtain ⟨A2,k2,l2,e2,g2,C2,w2,_⟩:=reads_row Kd.bool (fun _ => True) Tryd.underlying23 (by kernel_rfl) (fun n cs y h _ => reads_bool h) j0 i0
        obtain ⟨A3,k3,l3,e3,g3,C3,w3,hP⟩:=reads_row (Kd.slice 4 Kd.bool) (fun a => a.length < 140737488355328) Tryd.underlying24 (by kernel_rfl) (fun n cs y h hf => reads_rows h hf) j1 i1
        obtain ⟨loop,e4,_⟩:=DataW.trod_int Tryd.underlying3 j2
        simp at e0 e1 e2 e3 e4
        subst e0
        subst e1
        subst e2
        subst e3
        subst e4
        have b83 : Tryd.prog.bytesOf 83 = 16:=by kernel_rfl
        have b4 : Tryd.prog.bytesOf 4 = 1:=by kernel_rfl
        have b23 : Tryd.prog.bytesOf 23 = 24:=by kernel_rfl
        rw [b83] at w1
        rw [b4] at w2
        rw [b23] at w3
        simp only [reachBytes] at w1 w2 w3
        exact ⟨st,A1,k1,l1,A2,k2,l2,A3,k3,l3,loop,rfl,C1,g1,C2,g2,C3,g3,by omega,by omega,by omega,hP⟩
end
end Go.Proofs.YtojepjkpnponoaaDoor.Stim

