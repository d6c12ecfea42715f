import Derived.Test.YtojepjkpnponoaaDoorFStim8
import Derived.Test.YtojepjkpnponoaaDoorFGText
set_option linter.unusedSimpArgs false
namespace Go.Proofs.YtojepjkpnponoaaDoor.Stim
open Go Go.RowKit Go.Proofs.YtojepjkpnponoaaDoorW.PrintWords Go.Proofs.YtojepjkpnponoaaDoorW.PrintLast Go.Proofs.YtojepjkpnponoaaDoorW.PrintMore
set_option linter.unusedVariables false
theorem OwnT.string {w : World} {base : Nat} {v : Value} {l : List UInt8} (h : OwnT w base v l) : (convert 70 9 v).run Tryd.prog w = .ok (.string ⟨l.toArray⟩) w:=by
  obtain ⟨g,cap,rfl,hc⟩:=h.cells
  have hr:=run_convert_bytes_arg (P:=Tryd.prog) (w:=w) 70 5 Tryd.underlying70 Tryd.underlying5 g 0 l.length cap (l.map fun b => (b.toNat : Int)) (by simp) (fun i hi => by
    have:=hc i (.int .u8 ((l[i].toNat : Nat) : Int)) (by simp [Lib.byteCells,hi])
    rw [show (⟨g,0,none⟩ : Addr).add i = ⟨g,0 + i,none⟩ by unfold Addr.add;split <;> simp_all] at this
    rw [this]
    simp [List.getD,hi]) 9 Tryd.underlying9
  have hs : strOfNums (l.map fun b => (b.toNat : Int)) = ⟨l.toArray⟩:=by
    apply ByteArray.ext
    apply Array.ext'
    rw [strOfNums_data,List.map_map]
    conv => rhs;rw [← List.map_id l]
    apply List.map_congr_left
    intro b _
    simp
  rw [hr,hs]
end Go.Proofs.YtojepjkpnponoaaDoor.Stim

