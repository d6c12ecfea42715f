import Derived.Shelf.Strings.Builder1
import Derived.Shelf.Small.Bits
import Derived.Shelf.Strings.BuilderF
import Derived.Shelf.Strings.BuilderK
import Derived.Shelf.Utf8.RuneCount
import Derived.Shelf.Strconv.Itoa0
import Derived.Shelf.Strconv.Itoa1
import Derived.Shelf.LaysM
import Derived.Shelf.Strconv.Itoa2
import Derived.Shelf.Strconv.Itoa3
import Derived.Shelf.Strconv.Clone
import Derived.Shelf.Strconv.SyntaxError
import Derived.Shelf.Strconv.Lower
import Derived.Shelf.Strconv.ParseUint10
import Derived.Shelf.Strconv.ParseUint10Empty
import Derived.Shelf.Strconv.RangeError
import Derived.Shelf.Strconv.ParseUintEmpty
import Derived.Shelf.Strconv.ParseUint10b64
import Derived.Shelf.Strconv.ParseUint10b32
import Derived.Shelf.Strconv.ParseUint10b16
import Derived.Shelf.Strconv.ParseUint10b8
import Derived.Ground.MpProg
import Derived.Shelf.Pu.ParseUintPublic10
import Derived.Shelf.Pu.ErrVarParseUint
import Derived.Shelf.Strings.Search1
import Derived.Shelf.Strings.Search2
import Derived.Shelf.Strings.Search3
import Derived.Shelf.Strings.Cut
import Derived.Shelf.Strings.Count
import Derived.Shelf.Strings.Shaped
import Derived.Shelf.GgClosure.StringsIndexFunc
import Derived.Ground.GgwProg
import Derived.Shelf.GgClosure.StringsIndexFuncTop
import Derived.Shelf.GgClosure.StringsRunes
import Derived.Shelf.Strings.Split
import Derived.Shelf.Unicode.Decode
import Derived.Shelf.Strings.RuneCount
import Derived.Shelf.Strings.Explode
import Derived.Shelf.Unicode.DecodeSlow
import Derived.Shelf.Unicode.DecodeAny
import Derived.Shelf.Slices.Turned
import Derived.Test.YtifigmamaakigaaDoorProg
set_option linter.unusedVariables false
set_option linter.unusedSimpArgs false
namespace Go.Proofs
open Go.Shelf
def Tryd.lays125_ren : Go.Shelf.Ren:=⟨fun|125 => 28|128 => 47|129 => 48|n => n,fun|46 => 70|3 => 3|51 => 90|53 => 32|4 => 4|5 => 5|9 => 9|n => n,fun|n => n⟩
theorem Tryd.lays125 : Go.Proofs.Lays.n125 Tryd.prog Tryd.lays125_ren:={
  mixed:=by kernel_rfl
  f125:=Tryd.func28.trans (congrArg some (by kernel_rfl))
  f128:=Tryd.func47.trans (congrArg some (by kernel_rfl))
  f129:=Tryd.func48.trans (congrArg some (by kernel_rfl))
  t3:=Tryd.underlying3
  a3:=Tryd.isAgg3
  z3:=Tryd.sizeOf3
  v3:=Tryd.zeroValue3
  t4:=Tryd.underlying4
  a4:=Tryd.isAgg4
  z4:=Tryd.sizeOf4
  v4:=Tryd.zeroValue4
  t5:=Tryd.underlying5
  a5:=Tryd.isAgg5
  z5:=Tryd.sizeOf5
  v5:=Tryd.zeroValue5
  t9:=Tryd.underlying9
  a9:=Tryd.isAgg9
  z9:=Tryd.sizeOf9
  v9:=Tryd.zeroValue9
  t46:=Tryd.underlying70
  a46:=Tryd.isAgg70
  z46:=Tryd.sizeOf70
  v46:=Tryd.zeroValue70
  t51:=Tryd.underlying90
  a51:=Tryd.isAgg90
  z51:=Tryd.sizeOf90
  v51:=Tryd.zeroValue90
  t53:=Tryd.underlying32
  a53:=Tryd.isAgg32
  z53:=Tryd.sizeOf32
  v53:=Tryd.zeroValue32 }
theorem Tryd.bits_Len (x : Int) (w : World) (h0 : 0 ≤ x) (h1 : x ≤ 18446744073709551615) :
    Calls Tryd.prog 28 #[.int .u64 x] w fun e w' => e = .returned (.int .i64 (Lib.bitLen x.toNat)) ∧ w' = w:=Any.bits_Len Tryd.lays125 x w h0 h1
def Tryd.laysM171_ren : Go.Shelf.Ren:=⟨fun|171 => 18|243 => 30|246 => 50|283 => 60|284 => 61|285 => 62|286 => 63|129 => 48|317 => 75|318 => 76|319 => 77|320 => 78|337 => 90|338 => 91|n => n,fun|3 => 3|9 => 9|2 => 2|4 => 4|171 => 106|0 => 0|53 => 32|37 => 51|5 => 5|173 => 108|212 => 119|51 => 90|20 => 20|213 => 120|46 => 70|232 => 136|233 => 137|n => n,fun|17 => 2|18 => 5|19 => 6|n => n⟩
theorem Tryd.laysM171 : Go.Proofs.LaysM.n171 Tryd.prog Tryd.laysM171_ren:={
  mixed:=by kernel_rfl
  f129:=Tryd.func48.trans (congrArg some (by kernel_rfl))
  f171:=Tryd.func18.trans (congrArg some (by kernel_rfl))
  f243:=Tryd.func30.trans (congrArg some (by kernel_rfl))
  f246:=Tryd.func50.trans (congrArg some (by kernel_rfl))
  f283:=Tryd.func60.trans (congrArg some (by kernel_rfl))
  f284:=Tryd.func61.trans (congrArg some (by kernel_rfl))
  f285:=Tryd.func62.trans (congrArg some (by kernel_rfl))
  f286:=Tryd.func63.trans (congrArg some (by kernel_rfl))
  f317:=Tryd.func75.trans (congrArg some (by kernel_rfl))
  f318:=Tryd.func76.trans (congrArg some (by kernel_rfl))
  f319:=Tryd.func77.trans (congrArg some (by kernel_rfl))
  f320:=Tryd.func78.trans (congrArg some (by kernel_rfl))
  f337:=Tryd.func90.trans (congrArg some (by kernel_rfl))
  f338:=Tryd.func91.trans (congrArg some (by kernel_rfl))
  t0:=Tryd.underlying0
  a0:=Tryd.isAgg0
  z0:=Tryd.sizeOf0
  v0:=Tryd.zeroValue0
  t2:=Tryd.underlying2
  a2:=Tryd.isAgg2
  z2:=Tryd.sizeOf2
  v2:=Tryd.zeroValue2
  t3:=Tryd.underlying3
  a3:=Tryd.isAgg3
  z3:=Tryd.sizeOf3
  v3:=Tryd.zeroValue3
  t4:=Tryd.underlying4
  a4:=Tryd.isAgg4
  z4:=Tryd.sizeOf4
  v4:=Tryd.zeroValue4
  t5:=Tryd.underlying5
  a5:=Tryd.isAgg5
  z5:=Tryd.sizeOf5
  v5:=Tryd.zeroValue5
  t9:=Tryd.underlying9
  a9:=Tryd.isAgg9
  z9:=Tryd.sizeOf9
  v9:=Tryd.zeroValue9
  t20:=Tryd.underlying20
  a20:=Tryd.isAgg20
  z20:=Tryd.sizeOf20
  v20:=Tryd.zeroValue20
  t37:=Tryd.underlying51
  a37:=Tryd.isAgg51
  z37:=Tryd.sizeOf51
  v37:=Tryd.zeroValue51
  t46:=Tryd.underlying70
  a46:=Tryd.isAgg70
  z46:=Tryd.sizeOf70
  v46:=Tryd.zeroValue70
  t51:=Tryd.underlying90
  a51:=Tryd.isAgg90
  z51:=Tryd.sizeOf90
  v51:=Tryd.zeroValue90
  t53:=Tryd.underlying32
  a53:=Tryd.isAgg32
  z53:=Tryd.sizeOf32
  v53:=Tryd.zeroValue32
  t171:=Tryd.underlying106
  a171:=Tryd.isAgg106
  z171:=Tryd.sizeOf106
  v171:=Tryd.zeroValue106
  t173:=Tryd.underlying108
  a173:=Tryd.isAgg108
  z173:=Tryd.sizeOf108
  v173:=Tryd.zeroValue108
  t212:=Tryd.underlying119
  a212:=Tryd.isAgg119
  z212:=Tryd.sizeOf119
  v212:=Tryd.zeroValue119
  t213:=Tryd.underlying120
  a213:=Tryd.isAgg120
  z213:=Tryd.sizeOf120
  t232:=Tryd.underlying136
  a232:=Tryd.isAgg136
  z232:=Tryd.sizeOf136
  v232:=Tryd.zeroValue136
  t233:=Tryd.underlying137
  a233:=Tryd.isAgg137
  z233:=Tryd.sizeOf137
  v233:=Tryd.zeroValue137
  g17:=by kernel_rfl
  g18:=by kernel_rfl
  g19:=by kernel_rfl
  i0:=by kernel_rfl
  i2:=by kernel_rfl
  i3:=by kernel_rfl
  i4:=by kernel_rfl
  i5:=by kernel_rfl
  i9:=by kernel_rfl
  i20:=by kernel_rfl
  i37:=by kernel_rfl
  i46:=by kernel_rfl
  i51:=by kernel_rfl
  i53:=by kernel_rfl
  i171:=by kernel_rfl
  i173:=by kernel_rfl
  i212:=by kernel_rfl
  i232:=by kernel_rfl
  i233:=by kernel_rfl
  m17:=by kernel_rfl
  m18:=by kernel_rfl
  m19:=by kernel_rfl }
open Go.RowKit Go.Sort Go.Lib in
theorem Tryd.strconv_Itoa (n : Int) (h0 : -9223372036854775808 ≤ n) (h1 : n ≤ 9223372036854775807) (w : World) (htab : Lib.TabIs Tryd.prog w "internal/strconv.uint64pow10" .u64 Lib.pow10Tab) :
    Calls Tryd.prog 18 #[.int .i64 n] w fun e w' => e = .returned (.string ⟨(Lib.itoa n).toArray⟩) ∧ ∃ k os,w' = grow (w.drewN k) os:=Any.strconv_Itoa Tryd.laysM171 n h0 h1 w htab
def Tryd.laysPu14_ren : Go.Shelf.Ren:=⟨fun|14 => 53|16 => 71|17 => 72|19 => 84|20 => 85|21 => 86|22 => 87|23 => 88|24 => 89|25 => 93|27 => 18|26 => 94|28 => 30|29 => 50|30 => 60|31 => 61|32 => 62|33 => 63|35 => 48|34 => 75|36 => 76|37 => 77|38 => 78|39 => 90|40 => 91|n => n,fun|9 => 9|3 => 3|22 => 32|24 => 55|25 => 97|4 => 4|34 => 126|5 => 5|36 => 70|37 => 51|0 => 0|39 => 129|21 => 21|44 => 134|47 => 72|50 => 144|48 => 142|2 => 2|52 => 106|55 => 108|59 => 119|60 => 90|20 => 20|61 => 120|65 => 136|66 => 137|67 => 61|n => n,fun|0 => 3|1 => 4|2 => 2|3 => 5|4 => 6|n => n⟩
theorem Tryd.laysPu14 : Go.Proofs.LaysPu.n14 Tryd.prog Tryd.laysPu14_ren:={
  mixed:=by kernel_rfl
  f14:=Tryd.func53.trans (congrArg some (by kernel_rfl))
  f16:=Tryd.func71.trans (congrArg some (by kernel_rfl))
  f17:=Tryd.func72.trans (congrArg some (by kernel_rfl))
  f19:=Tryd.func84.trans (congrArg some (by kernel_rfl))
  f20:=Tryd.func85.trans (congrArg some (by kernel_rfl))
  f21:=Tryd.func86.trans (congrArg some (by kernel_rfl))
  f22:=Tryd.func87.trans (congrArg some (by kernel_rfl))
  f23:=Tryd.func88.trans (congrArg some (by kernel_rfl))
  f24:=Tryd.func89.trans (congrArg some (by kernel_rfl))
  f25:=Tryd.func93.trans (congrArg some (by kernel_rfl))
  f26:=Tryd.func94.trans (congrArg some (by kernel_rfl))
  f27:=Tryd.func18.trans (congrArg some (by kernel_rfl))
  f28:=Tryd.func30.trans (congrArg some (by kernel_rfl))
  f29:=Tryd.func50.trans (congrArg some (by kernel_rfl))
  f30:=Tryd.func60.trans (congrArg some (by kernel_rfl))
  f31:=Tryd.func61.trans (congrArg some (by kernel_rfl))
  f32:=Tryd.func62.trans (congrArg some (by kernel_rfl))
  f33:=Tryd.func63.trans (congrArg some (by kernel_rfl))
  f34:=Tryd.func75.trans (congrArg some (by kernel_rfl))
  f35:=Tryd.func48.trans (congrArg some (by kernel_rfl))
  f36:=Tryd.func76.trans (congrArg some (by kernel_rfl))
  f37:=Tryd.func77.trans (congrArg some (by kernel_rfl))
  f38:=Tryd.func78.trans (congrArg some (by kernel_rfl))
  f39:=Tryd.func90.trans (congrArg some (by kernel_rfl))
  f40:=Tryd.func91.trans (congrArg some (by kernel_rfl))
  t0:=Tryd.underlying0
  a0:=Tryd.isAgg0
  z0:=Tryd.sizeOf0
  v0:=Tryd.zeroValue0
  i0:=by kernel_rfl
  t2:=Tryd.underlying2
  a2:=Tryd.isAgg2
  z2:=Tryd.sizeOf2
  v2:=Tryd.zeroValue2
  i2:=by kernel_rfl
  t3:=Tryd.underlying3
  a3:=Tryd.isAgg3
  z3:=Tryd.sizeOf3
  v3:=Tryd.zeroValue3
  i3:=by kernel_rfl
  t4:=Tryd.underlying4
  a4:=Tryd.isAgg4
  z4:=Tryd.sizeOf4
  v4:=Tryd.zeroValue4
  i4:=by kernel_rfl
  t5:=Tryd.underlying5
  a5:=Tryd.isAgg5
  z5:=Tryd.sizeOf5
  v5:=Tryd.zeroValue5
  i5:=by kernel_rfl
  t9:=Tryd.underlying9
  a9:=Tryd.isAgg9
  z9:=Tryd.sizeOf9
  v9:=Tryd.zeroValue9
  i9:=by kernel_rfl
  t20:=Tryd.underlying20
  a20:=Tryd.isAgg20
  z20:=Tryd.sizeOf20
  v20:=Tryd.zeroValue20
  i20:=by kernel_rfl
  t21:=Tryd.underlying21
  a21:=Tryd.isAgg21
  z21:=Tryd.sizeOf21
  v21:=Tryd.zeroValue21
  i21:=by kernel_rfl
  t22:=Tryd.underlying32
  a22:=Tryd.isAgg32
  z22:=Tryd.sizeOf32
  v22:=Tryd.zeroValue32
  i22:=by kernel_rfl
  t24:=Tryd.underlying55
  a24:=Tryd.isAgg55
  z24:=Tryd.sizeOf55
  v24:=Tryd.zeroValue55
  i24:=by kernel_rfl
  t25:=Tryd.underlying97
  a25:=Tryd.isAgg97
  z25:=Tryd.sizeOf97
  v25:=Tryd.zeroValue97
  i25:=by kernel_rfl
  t34:=Tryd.underlying126
  a34:=Tryd.isAgg126
  z34:=Tryd.sizeOf126
  v34:=Tryd.zeroValue126
  i34:=by kernel_rfl
  c34:=by kernel_rfl
  t36:=Tryd.underlying70
  a36:=Tryd.isAgg70
  z36:=Tryd.sizeOf70
  v36:=Tryd.zeroValue70
  i36:=by kernel_rfl
  t37:=Tryd.underlying51
  a37:=Tryd.isAgg51
  z37:=Tryd.sizeOf51
  v37:=Tryd.zeroValue51
  i37:=by kernel_rfl
  t39:=Tryd.underlying129
  a39:=Tryd.isAgg129
  z39:=Tryd.sizeOf129
  v39:=Tryd.zeroValue129
  i39:=by kernel_rfl
  t44:=Tryd.underlying134
  a44:=Tryd.isAgg134
  z44:=Tryd.sizeOf134
  v44:=Tryd.zeroValue134
  i44:=by kernel_rfl
  t47:=Tryd.underlying72
  a47:=Tryd.isAgg72
  z47:=Tryd.sizeOf72
  v47:=Tryd.zeroValue72
  i47:=by kernel_rfl
  t48:=Tryd.underlying142
  a48:=Tryd.isAgg142
  z48:=Tryd.sizeOf142
  v48:=Tryd.zeroValue142
  i48:=by kernel_rfl
  t50:=Tryd.underlying144
  a50:=Tryd.isAgg144
  z50:=Tryd.sizeOf144
  v50:=Tryd.zeroValue144
  i50:=by kernel_rfl
  t52:=Tryd.underlying106
  a52:=Tryd.isAgg106
  z52:=Tryd.sizeOf106
  v52:=Tryd.zeroValue106
  i52:=by kernel_rfl
  t55:=Tryd.underlying108
  a55:=Tryd.isAgg108
  z55:=Tryd.sizeOf108
  v55:=Tryd.zeroValue108
  i55:=by kernel_rfl
  t59:=Tryd.underlying119
  a59:=Tryd.isAgg119
  z59:=Tryd.sizeOf119
  v59:=Tryd.zeroValue119
  i59:=by kernel_rfl
  t60:=Tryd.underlying90
  a60:=Tryd.isAgg90
  z60:=Tryd.sizeOf90
  v60:=Tryd.zeroValue90
  i60:=by kernel_rfl
  t61:=Tryd.underlying120
  a61:=Tryd.isAgg120
  z61:=Tryd.sizeOf120
  t65:=Tryd.underlying136
  a65:=Tryd.isAgg136
  z65:=Tryd.sizeOf136
  v65:=Tryd.zeroValue136
  i65:=by kernel_rfl
  t66:=Tryd.underlying137
  a66:=Tryd.isAgg137
  z66:=Tryd.sizeOf137
  v66:=Tryd.zeroValue137
  i66:=by kernel_rfl
  t67:=Tryd.underlying61
  a67:=Tryd.isAgg61
  z67:=Tryd.sizeOf61
  v67:=Tryd.zeroValue61
  i67:=by kernel_rfl
  g0:=by kernel_rfl
  m0:=by kernel_rfl
  g1:=by kernel_rfl
  m1:=by kernel_rfl
  g2:=by kernel_rfl
  m2:=by kernel_rfl
  g3:=by kernel_rfl
  m3:=by kernel_rfl
  g4:=by kernel_rfl
  m4:=by kernel_rfl }
def Tryd.lays145_ren : Go.Shelf.Ren:=⟨fun|145 => 22|220 => 31|219 => 51|217 => 64|225 => 65|224 => 66|267 => 67|266 => 79|314 => 80|n => n,fun|9 => 9|4 => 4|59 => 62|3 => 3|5 => 5|46 => 70|146 => 122|51 => 90|n => n,fun|1 => 1|n => n⟩
theorem Tryd.lays145 : Go.Proofs.Lays.n145 Tryd.prog Tryd.lays145_ren:={
  mixed:=by kernel_rfl
  f145:=Tryd.func22.trans (congrArg some (by kernel_rfl))
  f217:=Tryd.func64.trans (congrArg some (by kernel_rfl))
  f219:=Tryd.func51.trans (congrArg some (by kernel_rfl))
  f220:=Tryd.func31.trans (congrArg some (by kernel_rfl))
  f224:=Tryd.func66.trans (congrArg some (by kernel_rfl))
  f225:=Tryd.func65.trans (congrArg some (by kernel_rfl))
  f266:=Tryd.func79.trans (congrArg some (by kernel_rfl))
  f267:=Tryd.func67.trans (congrArg some (by kernel_rfl))
  f314:=Tryd.func80.trans (congrArg some (by kernel_rfl))
  t3:=Tryd.underlying3
  a3:=Tryd.isAgg3
  z3:=Tryd.sizeOf3
  v3:=Tryd.zeroValue3
  t4:=Tryd.underlying4
  a4:=Tryd.isAgg4
  z4:=Tryd.sizeOf4
  v4:=Tryd.zeroValue4
  t5:=Tryd.underlying5
  a5:=Tryd.isAgg5
  z5:=Tryd.sizeOf5
  v5:=Tryd.zeroValue5
  t9:=Tryd.underlying9
  a9:=Tryd.isAgg9
  z9:=Tryd.sizeOf9
  v9:=Tryd.zeroValue9
  t46:=Tryd.underlying70
  a46:=Tryd.isAgg70
  z46:=Tryd.sizeOf70
  v46:=Tryd.zeroValue70
  t51:=Tryd.underlying90
  a51:=Tryd.isAgg90
  z51:=Tryd.sizeOf90
  v51:=Tryd.zeroValue90
  t59:=Tryd.underlying62
  a59:=Tryd.isAgg62
  z59:=Tryd.sizeOf62
  v59:=Tryd.zeroValue62
  t146:=Tryd.underlying122
  a146:=Tryd.isAgg122
  z146:=Tryd.sizeOf122
  v146:=Tryd.zeroValue122
  g1:=by kernel_rfl }
open Go.RowKit Go.Lib in
theorem Tryd.strings_Cut (s sep : ByteArray) (m : Int) (w : World) (hs : s.size < 4294967281) (hm : w.cell? ⟨1,0,none⟩ = some (.int .i64 m)) :
    Calls Tryd.prog 22 #[.string s,.string sep] w fun e w' => e = .returned (.tuple #[.string ⟨(Lib.cut s.data.toList sep.data.toList).1.toArray⟩,.string ⟨(Lib.cut s.data.toList sep.data.toList).2.1.toArray⟩,.bool (Lib.cut s.data.toList sep.data.toList).2.2]) ∧ ∃ n,w' = w.drewN n:=Any.strings_Cut Tryd.lays145 s sep m w hs hm
def Tryd.laysGw17_ren : Go.Shelf.Ren:=⟨fun|17 => 37|15 => 54|20 => 73|n => n,fun|9 => 9|23 => 80|4 => 4|3 => 3|0 => 0|21 => 21|n => n,fun|n => n⟩
theorem Tryd.laysGw17 : Go.Proofs.LaysGw.n17 Tryd.prog Tryd.laysGw17_ren:={
  mixed:=by kernel_rfl
  f15:=Tryd.func54.trans (congrArg some (by kernel_rfl))
  f17:=Tryd.func37.trans (congrArg some (by kernel_rfl))
  f20:=Tryd.func73.trans (congrArg some (by kernel_rfl))
  t0:=Tryd.underlying0
  a0:=Tryd.isAgg0
  z0:=Tryd.sizeOf0
  v0:=Tryd.zeroValue0
  i0:=by kernel_rfl
  t3:=Tryd.underlying3
  a3:=Tryd.isAgg3
  z3:=Tryd.sizeOf3
  v3:=Tryd.zeroValue3
  i3:=by kernel_rfl
  t4:=Tryd.underlying4
  a4:=Tryd.isAgg4
  z4:=Tryd.sizeOf4
  v4:=Tryd.zeroValue4
  i4:=by kernel_rfl
  t9:=Tryd.underlying9
  a9:=Tryd.isAgg9
  z9:=Tryd.sizeOf9
  v9:=Tryd.zeroValue9
  i9:=by kernel_rfl
  t21:=Tryd.underlying21
  a21:=Tryd.isAgg21
  z21:=Tryd.sizeOf21
  v21:=Tryd.zeroValue21
  i21:=by kernel_rfl
  t23:=Tryd.underlying80
  a23:=Tryd.isAgg80
  z23:=Tryd.sizeOf80
  v23:=Tryd.zeroValue80
  i23:=by kernel_rfl }
open Go.RowKit Go.Lib in
theorem Tryd.strings_ContainsFunc_runes (g : Nat) (lb : Array Value) (eg : ∀ args w,(callFunc g args).run Tryd.prog w = .ok (.enter g args) w) (p : Nat → Bool) (s : ByteArray) (w : World) (hp : PredAtRunes Tryd.prog g lb p w) :
    Calls Tryd.prog 37 #[.string s,.func (.func g) #[] lb] w fun e w' => e = .returned (.bool (decide (0 ≤ Lib.idxFunc p true s))) ∧ Below w.heap.size w w':=Any.strings_ContainsFunc_runes Tryd.laysGw17 g lb eg p s w hp
def Tryd.lays146_ren : Go.Shelf.Ren:=⟨fun|146 => 32|221 => 52|268 => 68|138 => 69|143 => 70|195 => 81|197 => 82|218 => 83|219 => 51|260 => 92|217 => 64|225 => 65|224 => 66|267 => 67|266 => 79|314 => 80|n => n,fun|9 => 9|31 => 73|3 => 3|4 => 4|0 => 0|105 => 124|21 => 21|5 => 5|46 => 70|119 => 138|139 => 141|138 => 140|146 => 122|51 => 90|n => n,fun|1 => 1|3 => 7|4 => 8|n => n⟩
theorem Tryd.lays146 : Go.Proofs.Lays.n146 Tryd.prog Tryd.lays146_ren:={
  mixed:=by kernel_rfl
  f138:=Tryd.func69.trans (congrArg some (by kernel_rfl))
  f143:=Tryd.func70.trans (congrArg some (by kernel_rfl))
  f146:=Tryd.func32.trans (congrArg some (by kernel_rfl))
  f195:=Tryd.func81.trans (congrArg some (by kernel_rfl))
  f197:=Tryd.func82.trans (congrArg some (by kernel_rfl))
  f217:=Tryd.func64.trans (congrArg some (by kernel_rfl))
  f218:=Tryd.func83.trans (congrArg some (by kernel_rfl))
  f219:=Tryd.func51.trans (congrArg some (by kernel_rfl))
  f221:=Tryd.func52.trans (congrArg some (by kernel_rfl))
  f224:=Tryd.func66.trans (congrArg some (by kernel_rfl))
  f225:=Tryd.func65.trans (congrArg some (by kernel_rfl))
  f260:=Tryd.func92.trans (congrArg some (by kernel_rfl))
  f266:=Tryd.func79.trans (congrArg some (by kernel_rfl))
  f267:=Tryd.func67.trans (congrArg some (by kernel_rfl))
  f268:=Tryd.func68.trans (congrArg some (by kernel_rfl))
  f314:=Tryd.func80.trans (congrArg some (by kernel_rfl))
  t0:=Tryd.underlying0
  a0:=Tryd.isAgg0
  z0:=Tryd.sizeOf0
  v0:=Tryd.zeroValue0
  t3:=Tryd.underlying3
  a3:=Tryd.isAgg3
  z3:=Tryd.sizeOf3
  v3:=Tryd.zeroValue3
  t4:=Tryd.underlying4
  a4:=Tryd.isAgg4
  z4:=Tryd.sizeOf4
  v4:=Tryd.zeroValue4
  t5:=Tryd.underlying5
  a5:=Tryd.isAgg5
  z5:=Tryd.sizeOf5
  v5:=Tryd.zeroValue5
  t9:=Tryd.underlying9
  a9:=Tryd.isAgg9
  z9:=Tryd.sizeOf9
  v9:=Tryd.zeroValue9
  t21:=Tryd.underlying21
  a21:=Tryd.isAgg21
  z21:=Tryd.sizeOf21
  v21:=Tryd.zeroValue21
  t31:=Tryd.underlying73
  a31:=Tryd.isAgg73
  z31:=Tryd.sizeOf73
  v31:=Tryd.zeroValue73
  t46:=Tryd.underlying70
  a46:=Tryd.isAgg70
  z46:=Tryd.sizeOf70
  v46:=Tryd.zeroValue70
  t51:=Tryd.underlying90
  a51:=Tryd.isAgg90
  z51:=Tryd.sizeOf90
  v51:=Tryd.zeroValue90
  t105:=Tryd.underlying124
  a105:=Tryd.isAgg124
  z105:=Tryd.sizeOf124
  v105:=Tryd.zeroValue124
  t119:=Tryd.underlying138
  a119:=Tryd.isAgg138
  z119:=Tryd.sizeOf138
  t138:=Tryd.underlying140
  a138:=Tryd.isAgg140
  z138:=Tryd.sizeOf140
  v138:=Tryd.zeroValue140
  t139:=Tryd.underlying141
  a139:=Tryd.isAgg141
  z139:=Tryd.sizeOf141
  v139:=Tryd.zeroValue141
  t146:=Tryd.underlying122
  a146:=Tryd.isAgg122
  z146:=Tryd.sizeOf122
  v146:=Tryd.zeroValue122
  g1:=by kernel_rfl
  g3:=by kernel_rfl
  g4:=by kernel_rfl }
open Go.RowKit Go.Lib in
theorem Tryd.strings_Split (s sep : ByteArray) (m : Int) (w : World) (hs : s.size < 4294967281) (hm : w.cell? ⟨1,0,none⟩ = some (.int .i64 m)) (h1 : 1 ≤ sep.size) :
    Calls Tryd.prog 32 #[.string s,.string sep] w fun e w' =>
      e = .returned (.slice (some ⟨w.heap.size,0,none⟩) (Lib.countB s sep + 1) (Lib.countB s sep + 1)) ∧ w' = w.alloc (.cells ((Lib.splitB sep 0 (Lib.countB s sep) s).map Value.string).toArray 9):=Any.strings_Split Tryd.lays146 (by kernel_rfl) s sep m w hs hm h1
def Tryd.lays109_ren : Go.Shelf.Ren:=⟨fun|109 => 34|n => n,fun|31 => 73|9 => 9|3 => 3|0 => 0|4 => 4|n => n,fun|n => n⟩
theorem Tryd.lays109 : Go.Proofs.Lays.n109 Tryd.prog Tryd.lays109_ren:={
  mixed:=by kernel_rfl
  f109:=Tryd.func34.trans (congrArg some (by kernel_rfl))
  t0:=Tryd.underlying0
  a0:=Tryd.isAgg0
  z0:=Tryd.sizeOf0
  v0:=Tryd.zeroValue0
  t3:=Tryd.underlying3
  a3:=Tryd.isAgg3
  z3:=Tryd.sizeOf3
  v3:=Tryd.zeroValue3
  t4:=Tryd.underlying4
  a4:=Tryd.isAgg4
  z4:=Tryd.sizeOf4
  v4:=Tryd.zeroValue4
  t9:=Tryd.underlying9
  a9:=Tryd.isAgg9
  z9:=Tryd.sizeOf9
  v9:=Tryd.zeroValue9
  t31:=Tryd.underlying73
  a31:=Tryd.isAgg73
  z31:=Tryd.sizeOf73
  v31:=Tryd.zeroValue73 }
open Go.Lib in
theorem Tryd.slices_Index_string (b off n c : Nat) (zs : List ByteArray) (x : ByteArray) (w : World) (hz : n ≤ zs.length) (hbig : n ≤ 9223372036854775807) (hc : ∀ j,j < zs.length → w.cell? ⟨b,off + j,none⟩ = some (.string (zs.getD j ByteArray.empty))) :
    Calls Tryd.prog 34 #[.slice (some ⟨b,off,none⟩) n c,.string x] w fun e w' => e = .returned (.int .i64 (Lib.idxOfS (zs.take n) x)) ∧ w' = w:=Any.slices_Index_string Tryd.lays109 b off n c zs x w hz hbig hc
open Go.RowKit
end Go.Proofs

