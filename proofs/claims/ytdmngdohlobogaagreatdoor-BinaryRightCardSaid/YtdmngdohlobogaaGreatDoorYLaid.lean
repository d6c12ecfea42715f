import Derived.Test.YtdmngdohlobogaaGreatDoorYGV
import Derived.Test.YtdmngdohlobogaaGreatDoorRows
import Derived.LaidLaws
import Derived.LaidSub
import Derived.MakeChecks
import Derived.Shelf.Vars
import Derived.Lib.LaidTab
import Derived.Lib.LaidU8
set_option linter.unusedVariables false
set_option linter.unusedSimpArgs false
namespace Go.Proofs.YtdmngdohlobogaaGreatDoor
open Go Go.RowKit Go.Lib
set_option maxRecDepth 100000
theorem errVar_of {W : World} {n : String} {g : Nat} {d : DataW Unit} (h : VarReads Tryz.prog W n (.iface "*errors.errorString" d)) (hg : Tryz.prog.globalNamed n = some g) (ht : (Tryz.prog.globals[g]?).map (·.type) = some 147) : ∃ tp p, W.var? Tryz.prog n = some #[.iface tp p] := by
 obtain ⟨g',t,cs,fuel,p,hg',ht',hv,hd⟩:=h
 obtain rfl:=Option.some.inj (hg.symm.trans hg')
 obtain rfl:=Option.some.inj (ht.symm.trans ht')
 obtain ⟨_,u,v,hc,_,_⟩:=iface_of_trod Tryz.underlying147 hd
 obtain ⟨l⟩:=cs
 simp only at hc
 subst hc
 exact ⟨u,v,hv⟩
theorem max_of {W : World} (h : W.ShapedOpen Tryz.prog) : ∃ m, W.var? Tryz.prog "internal/bytealg.MaxLen" = some #[.int .i64 m] := by
 obtain ⟨cs,hh,hs,_⟩:=h.1 0 #[.int .i64 0] 3 (of_decide_eq_true (by kernel_rfl)) (by kernel_rfl)
 obtain ⟨m,hm⟩:=cell_of_shapedOpen_int (zero:=#[.int .i64 0]) (t:=3) (g:=0) h (of_decide_eq_true (by kernel_rfl)) (by kernel_rfl) rfl (by kernel_rfl) (by kernel_rfl) Tryz.underlying3
 refine ⟨m,?_⟩
 have hg : Tryz.prog.globalNamed "internal/bytealg.MaxLen" = some 0 := by kernel_rfl
 obtain ⟨l⟩:=cs
 match l,hs with
 |[c],_ =>
  simp [World.cell?,hh] at hm
  subst hm
  simp [World.var?,hg,hh]
theorem gv_of_laid {W : World} {l : List (String × DataW Unit)} (h : laidMetH Tryz.prog l W) (hplain : (l.all fun x => x.2.handleName?.isNone) = true)
  (h1 : ("strconv.ErrSyntax", Rows.laid_strconv_ErrSyntax) ∈ l) (h2 : ("strconv.ErrRange", Rows.laid_strconv_ErrRange) ∈ l)
  (h3 : (l.filter fun x => x.1 == "internal/strconv.uint64pow10") = [("internal/strconv.uint64pow10", Rows.laid_internal_strconv_uint64pow10)]) (hsh : W.ShapedOpen Tryz.prog) : GV W := by
 rw [MakeChecks.laidMetH_plain _ _ _ hplain] at h
 refine ⟨max_of hsh,?_,errVar_of (Go.Lib.laidMet.reads h h1) (g:=3) (by kernel_rfl) (by kernel_rfl),errVar_of (Go.Lib.laidMet.reads h h2) (g:=4) (by kernel_rfl) (by kernel_rfl)⟩
 have hf := h.filter (fun x => x.1 == "internal/strconv.uint64pow10")
 rw [h3] at hf
 have hu : Tryz.prog.underlying 198 = some (.array 20 (match Tryz.prog.underlying 198 with|some (.array _ e) => e|_ => 0)):=by kernel_rfl
 refine tabIs_of_head (g:=5) (t:=198) (rest:=[]) (by kernel_rfl) (by kernel_rfl) hu (k:=.u64) (by kernel_rfl) (by kernel_rfl) (by kernel_rfl) ?_
 exact hf
end Go.Proofs.YtdmngdohlobogaaGreatDoor

