import Derived.Shelf.SlicesQ.IndexFunc
import Derived.Shelf.SlSortCmp.WholeK
import Derived.Test.YtifigmamaakigaaDoorProg
set_option linter.unusedVariables false
set_option linter.unusedSimpArgs false
namespace Go.Proofs
open Go.Shelf
def Tryd.laysCF_ren : Go.Shelf.Ren:=⟨fun|6 => 35|8 => 24|n => n,fun|0 => 0|3 => 3|4 => 4|22 => 22|25 => 67|23 => 31|n => n,fun|n => n⟩
set_option maxRecDepth 100000 in
theorem Tryd.laysCF : SlLaysH0.n8 Tryd.prog Tryd.laysCF_ren:={
  mixed:=by kernel_rfl
  f6 := ⟨"slices.IndexFunc[[]trestle/api.Row,trestle/api.Row]", by kernel_rfl, Tryd.func35.trans (congrArg some (by kernel_rfl))⟩
  f8 := ⟨"slices.ContainsFunc[[]trestle/api.Row,trestle/api.Row]", by kernel_rfl, Tryd.func24.trans (congrArg some (by kernel_rfl))⟩
  t0:=Tryd.underlying0
  a0:=Tryd.isAgg0
  z0:=Tryd.sizeOf0
  v0:=Tryd.zeroValue0
  t3:=Tryd.underlying3
  a3:=Tryd.isAgg3
  z3:=Tryd.sizeOf3
  v3:=Tryd.zeroValue3
  t4:=Tryd.underlying4
  a4:=Tryd.isAgg4
  z4:=Tryd.sizeOf4
  v4:=Tryd.zeroValue4
  t22:=Tryd.underlying22
  a22:=Tryd.isAgg22
  z22:=Tryd.sizeOf22
  v22:=Tryd.zeroValue22
  t25:=Tryd.underlying67
  a25:=Tryd.isAgg67
  z25:=Tryd.sizeOf67
  v25:=Tryd.zeroValue67 }
def Tryd.laysSF_ren : Go.Shelf.Ren:=⟨fun|6 => 13|14 => 27|15 => 28|20 => 39|21 => 40|22 => 41|23 => 42|24 => 43|25 => 44|26 => 45|27 => 46|28 => 47|29 => 48|46 => 55|47 => 56|48 => 57|49 => 58|50 => 59|57 => 74|n => n,fun|0 => 0|3 => 3|4 => 4|5 => 5|9 => 9|22 => 22|25 => 49|39 => 70|45 => 82|46 => 83|50 => 87|53 => 90|55 => 32|66 => 100|70 => 104|76 => 115|77 => 116|24 => 31|n => n,fun|n => n⟩
set_option maxRecDepth 100000 in
theorem Tryd.laysSF : SlLaysF0.n6 Tryd.prog Tryd.laysSF_ren:={
  mixed:=by kernel_rfl
  f6 := ⟨"slices.SortFunc[[]trestle/api.Row,trestle/api.Row]", by kernel_rfl, Tryd.func13.trans (congrArg some (by kernel_rfl))⟩
  f14 := ⟨"slices.pdqsortCmpFunc[trestle/api.Row]", by kernel_rfl, Tryd.func27.trans (congrArg some (by kernel_rfl))⟩
  f15:=Tryd.func28.trans (congrArg some (by kernel_rfl))
  f20 := ⟨"slices.insertionSortCmpFunc[trestle/api.Row]", by kernel_rfl, Tryd.func39.trans (congrArg some (by kernel_rfl))⟩
  f21 := ⟨"slices.heapSortCmpFunc[trestle/api.Row]", by kernel_rfl, Tryd.func40.trans (congrArg some (by kernel_rfl))⟩
  f22 := ⟨"slices.breakPatternsCmpFunc[trestle/api.Row]", by kernel_rfl, Tryd.func41.trans (congrArg some (by kernel_rfl))⟩
  f23 := ⟨"slices.choosePivotCmpFunc[trestle/api.Row]", by kernel_rfl, Tryd.func42.trans (congrArg some (by kernel_rfl))⟩
  f24 := ⟨"slices.reverseRangeCmpFunc[trestle/api.Row]", by kernel_rfl, Tryd.func43.trans (congrArg some (by kernel_rfl))⟩
  f25 := ⟨"slices.partialInsertionSortCmpFunc[trestle/api.Row]", by kernel_rfl, Tryd.func44.trans (congrArg some (by kernel_rfl))⟩
  f26 := ⟨"slices.partitionEqualCmpFunc[trestle/api.Row]", by kernel_rfl, Tryd.func45.trans (congrArg some (by kernel_rfl))⟩
  f27 := ⟨"slices.partitionCmpFunc[trestle/api.Row]", by kernel_rfl, Tryd.func46.trans (congrArg some (by kernel_rfl))⟩
  f28:=Tryd.func47.trans (congrArg some (by kernel_rfl))
  f29:=Tryd.func48.trans (congrArg some (by kernel_rfl))
  f46 := ⟨"slices.siftDownCmpFunc[trestle/api.Row]", by kernel_rfl, Tryd.func55.trans (congrArg some (by kernel_rfl))⟩
  f47:=Tryd.func56.trans (congrArg some (by kernel_rfl))
  f48:=Tryd.func57.trans (congrArg some (by kernel_rfl))
  f49 := ⟨"slices.medianAdjacentCmpFunc[trestle/api.Row]", by kernel_rfl, Tryd.func58.trans (congrArg some (by kernel_rfl))⟩
  f50 := ⟨"slices.medianCmpFunc[trestle/api.Row]", by kernel_rfl, Tryd.func59.trans (congrArg some (by kernel_rfl))⟩
  f57 := ⟨"slices.order2CmpFunc[trestle/api.Row]", by kernel_rfl, Tryd.func74.trans (congrArg some (by kernel_rfl))⟩
  t0:=Tryd.underlying0
  a0:=Tryd.isAgg0
  z0:=Tryd.sizeOf0
  v0:=Tryd.zeroValue0
  t3:=Tryd.underlying3
  a3:=Tryd.isAgg3
  z3:=Tryd.sizeOf3
  v3:=Tryd.zeroValue3
  t4:=Tryd.underlying4
  a4:=Tryd.isAgg4
  z4:=Tryd.sizeOf4
  v4:=Tryd.zeroValue4
  t5:=Tryd.underlying5
  a5:=Tryd.isAgg5
  z5:=Tryd.sizeOf5
  v5:=Tryd.zeroValue5
  t9:=Tryd.underlying9
  a9:=Tryd.isAgg9
  z9:=Tryd.sizeOf9
  v9:=Tryd.zeroValue9
  t22:=Tryd.underlying22
  a22:=Tryd.isAgg22
  z22:=Tryd.sizeOf22
  v22:=Tryd.zeroValue22
  t25:=Tryd.underlying49
  a25:=Tryd.isAgg49
  z25:=Tryd.sizeOf49
  v25:=Tryd.zeroValue49
  t39:=Tryd.underlying70
  a39:=Tryd.isAgg70
  z39:=Tryd.sizeOf70
  v39:=Tryd.zeroValue70
  t45:=Tryd.underlying82
  a45:=Tryd.isAgg82
  z45:=Tryd.sizeOf82
  v45:=Tryd.zeroValue82
  t46:=Tryd.underlying83
  a46:=Tryd.isAgg83
  z46:=Tryd.sizeOf83
  v46:=Tryd.zeroValue83
  t50:=Tryd.underlying87
  a50:=Tryd.isAgg87
  z50:=Tryd.sizeOf87
  v50:=Tryd.zeroValue87
  t53:=Tryd.underlying90
  a53:=Tryd.isAgg90
  z53:=Tryd.sizeOf90
  v53:=Tryd.zeroValue90
  t55:=Tryd.underlying32
  a55:=Tryd.isAgg32
  z55:=Tryd.sizeOf32
  v55:=Tryd.zeroValue32
  t66:=Tryd.underlying100
  a66:=Tryd.isAgg100
  z66:=Tryd.sizeOf100
  v66:=Tryd.zeroValue100
  t70:=Tryd.underlying104
  a70:=Tryd.isAgg104
  z70:=Tryd.sizeOf104
  v70:=Tryd.zeroValue104
  t76:=Tryd.underlying115
  a76:=Tryd.isAgg115
  z76:=Tryd.sizeOf115
  v76:=Tryd.zeroValue115
  t77:=Tryd.underlying116
  a77:=Tryd.isAgg116
  z77:=Tryd.sizeOf116
  v77:=Tryd.zeroValue116 }
end Go.Proofs

