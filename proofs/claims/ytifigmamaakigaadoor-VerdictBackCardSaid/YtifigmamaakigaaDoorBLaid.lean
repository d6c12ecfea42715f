import Derived.OpenShut
import Derived.Test.YtifigmamaakigaaDoorBV6
import Derived.Test.YtifigmamaakigaaDoorRows
import Derived.LaidLaws
import Derived.LaidSub
import Derived.MakeChecks
import Derived.Shelf.Vars
import Derived.Lib.LaidTab
import Derived.Lib.LaidU8
set_option linter.unusedVariables false
set_option linter.unusedSimpArgs false
namespace Go.Proofs.YtifigmamaakigaaDoor
open Go Go.RowKit Go.Lib
open Go.Proofs.YtifigmamaakigaaDoor.V
set_option maxRecDepth 100000
theorem errVar_of {W : World} {n : String} {g : Nat} {d : DataW Unit} (h : VarReads Tryd.prog W n (.iface "*errors.errorString" d)) (hg : Tryd.prog.globalNamed n = some g) (ht : (Tryd.prog.globals[g]?).map (·.type) = some 55) : ∃ tp p, W.var? Tryd.prog n = some #[.iface tp p] := by
  obtain ⟨g',t,cs,fuel,p,hg',ht',hv,hd⟩:=h
  obtain rfl:=Option.some.inj (hg.symm.trans hg')
  obtain rfl:=Option.some.inj (ht.symm.trans ht')
  obtain ⟨_,u,v,hc,_,_⟩:=iface_of_trod Tryd.underlying55 hd
  obtain ⟨l⟩:=cs
  simp only at hc
  subst hc
  exact ⟨u,v,hv⟩
theorem max_of {W : World} (h : W.ShapedOpen Tryd.prog) : ∃ m, W.var? Tryd.prog "internal/bytealg.MaxLen" = some #[.int .i64 m] := by
  obtain ⟨cs,hh,hs,_⟩:=h.1 1 #[.int .i64 0] 3 (of_decide_eq_true (by kernel_rfl)) (by kernel_rfl)
  obtain ⟨m,hm⟩:=cell_of_shapedOpen_int (zero:=#[.int .i64 0]) (t:=3) (g:=1) h (of_decide_eq_true (by kernel_rfl)) (by kernel_rfl) rfl (by kernel_rfl) (by kernel_rfl) Tryd.underlying3
  refine ⟨m,?_⟩
  have hg : Tryd.prog.globalNamed "internal/bytealg.MaxLen" = some 1 := by kernel_rfl
  obtain ⟨l⟩:=cs
  match l,hs with
  | [c],_ =>
    simp [World.cell?,hh] at hm
    subst hm
    simp [World.var?,hg,hh]
theorem kv_of {W : World} {l : List (String × DataW Unit)} (h : laidMet Tryd.prog l W) (hm : ("trestle/verdict.kinds", Rows.laid_trestle_verdict_kinds) ∈ l) (hsh : W.ShapedOpen Tryd.prog) : KV W := by
  obtain ⟨cs,hh,hs,_⟩:=hsh.1 0 #[.string ⟨#[]⟩,.string ⟨#[]⟩,.string ⟨#[]⟩,.string ⟨#[]⟩,.string ⟨#[]⟩] 71 (of_decide_eq_true (by kernel_rfl)) (by kernel_rfl)
  obtain ⟨g',t,cs',fuel,p,hg',ht',hv,hd⟩:=Go.Lib.laidMet.reads h hm
  obtain rfl := Option.some.inj ((show Tryd.prog.globalNamed "trestle/verdict.kinds" = some 0 by kernel_rfl).symm.trans hg')
  obtain rfl:=Option.some.inj ((show (Tryd.prog.globals[0]?).map (·.type) = some 71 by kernel_rfl).symm.trans ht')
  have hcs : cs' = cs:=by
    simp [World.var?, show Tryd.prog.globalNamed "trestle/verdict.kinds" = some 0 by kernel_rfl, hh] at hv
    exact hv.symm
  subst hcs
  obtain ⟨xs,m,rfl,hx,hl,hxl,hall⟩:=DataW.trod_array (show Tryd.prog.underlying 71 = some (.array 5 9) by kernel_rfl) hd
  have c9 : Tryd.prog.cellsOf 9 = 1:=by kernel_rfl
  simp only [c9] at hall
  obtain ⟨cs⟩:=cs'
  have hs5 : cs.length = 5:=by simpa using hs
  match cs,hs5 with
  | [a,b,c,d,e],_ =>
    match xs,hxl with
    | [x0,x1,x2,x3,x4],_ =>
      have h0 : DataW.trod (fun _ => ()) Tryd.prog W 0 (fun _ => true) false m 9 [a] = some x0:=hall 0 (by decide)
      have h1 : DataW.trod (fun _ => ()) Tryd.prog W 0 (fun _ => true) false m 9 [b] = some x1:=hall 1 (by decide)
      have h2 : DataW.trod (fun _ => ()) Tryd.prog W 0 (fun _ => true) false m 9 [c] = some x2:=hall 2 (by decide)
      have h3 : DataW.trod (fun _ => ()) Tryd.prog W 0 (fun _ => true) false m 9 [d] = some x3:=hall 3 (by decide)
      have h4 : DataW.trod (fun _ => ()) Tryd.prog W 0 (fun _ => true) false m 9 [e] = some x4:=hall 4 (by decide)
      obtain ⟨s0,e0,g0,_⟩:=DataW.trod_string Tryd.underlying9 h0
      obtain ⟨s1,e1,g1,_⟩:=DataW.trod_string Tryd.underlying9 h1
      obtain ⟨s2,e2,g2,_⟩:=DataW.trod_string Tryd.underlying9 h2
      obtain ⟨s3,e3,g3,_⟩:=DataW.trod_string Tryd.underlying9 h3
      obtain ⟨s4,e4,g4,_⟩:=DataW.trod_string Tryd.underlying9 h4
      subst g0 g1 g2 g3 g4
      simp only [List.cons.injEq,and_true] at e0 e1 e2 e3 e4
      subst e0 e1 e2 e3 e4
      have hx1:=congrArg Prod.fst hx
      simp only [Rows.laid_trestle_verdict_kinds,List.map_cons,List.map_nil,DataW.agg.injEq,List.cons.injEq,DataW.lit.injEq,Lit.string.injEq,and_true] at hx1
      obtain ⟨q0,q1,q2,q3,q4⟩:=hx1
      unfold KV kindL
      rw [hh]
      have key : ∀ {s : ByteArray} {l : List UInt8},l = s.data.toList → s = ⟨l.toArray⟩:=by
        intro s l h
        subst h
        cases s
        simp
      rw [key q0,key q1,key q2,key q3,key q4]
      rfl
theorem gv_of_laid {W : World} {l : List (String × DataW Unit)} (h : laidMetH Tryd.prog l W) (hplain : (l.all fun x => x.2.handleName?.isNone) = true)
    (h1 : ("strconv.ErrSyntax", Rows.laid_strconv_ErrSyntax) ∈ l) (h2 : ("strconv.ErrRange", Rows.laid_strconv_ErrRange) ∈ l)
    (h3 : (l.filter fun x => x.1 == "internal/strconv.uint64pow10") = [("internal/strconv.uint64pow10", Rows.laid_internal_strconv_uint64pow10)]) (h4 : ("trestle/verdict.kinds", Rows.laid_trestle_verdict_kinds) ∈ l) (hsh : W.ShapedOpen Tryd.prog) : GV W := by
  rw [MakeChecks.laidMetH_plain _ _ _ hplain] at h
  refine ⟨kv_of h h4 hsh,max_of hsh,?_,errVar_of (Go.Lib.laidMet.reads h h1) (g:=3) (by kernel_rfl) (by kernel_rfl),errVar_of (Go.Lib.laidMet.reads h h2) (g:=4) (by kernel_rfl) (by kernel_rfl)⟩
  have hf := h.filter (fun x => x.1 == "internal/strconv.uint64pow10")
  rw [h3] at hf
  have hu : Tryd.prog.underlying 119 = some (.array 20 (match Tryd.prog.underlying 119 with|some (.array _ e) => e|_ => 0)):=by kernel_rfl
  refine tabIs_of_head (g:=2) (t:=119) (rest:=[]) (by kernel_rfl) (by kernel_rfl) hu (k:=.u64) (by kernel_rfl) (by kernel_rfl) (by kernel_rfl) ?_
  exact hf
end Go.Proofs.YtifigmamaakigaaDoor

