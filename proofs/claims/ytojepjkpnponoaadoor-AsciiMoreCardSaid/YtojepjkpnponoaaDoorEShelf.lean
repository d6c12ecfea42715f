import Derived.Shelf.Strings.Builder1
import Derived.Shelf.Small.Strs
import Derived.Shelf.Small.Wraps
import Derived.Shelf.Strings.BuilderF
import Derived.Shelf.Strings.BuilderK
import Derived.Shelf.Strconv.Itoa0
import Derived.Shelf.Strconv.Itoa1
import Derived.Shelf.LaysM
import Derived.Shelf.Strconv.Itoa2
import Derived.Shelf.Strconv.Itoa3
import Derived.Ground.MpProg
import Derived.Shelf.Pu.ParseUintPublic10
import Derived.Shelf.Pu.ErrVarParseUint
import Derived.Shelf.Strings.Search1
import Derived.Shelf.Strings.Search2
import Derived.Shelf.Strings.Search3
import Derived.Shelf.Strings.Cut
import Derived.Shelf.Strings.Shaped
import Derived.Shelf.Strings.Prefix
import Derived.Shelf.Slices.Reverse
import Derived.Shelf.Slices.Equal
import Derived.Shelf.Slices.Empties2
import Derived.Test.YtojepjkpnponoaaDoorProg
set_option linter.unusedVariables false
set_option linter.unusedSimpArgs false
namespace Go.Proofs
open Go.Shelf
def Tryd.lays137_ren : Go.Shelf.Ren:=⟨fun|137 => 81|217 => 100|266 => 122|n => n,fun|9 => 9|5 => 5|3 => 3|n => n,fun|n => n⟩
theorem Tryd.lays137 : Go.Proofs.Lays.n137 Tryd.prog Tryd.lays137_ren:={
  mixed:=by kernel_rfl
  f137:=Tryd.func81.trans (congrArg some (by kernel_rfl))
  f217:=Tryd.func100.trans (congrArg some (by kernel_rfl))
  f266:=Tryd.func122.trans (congrArg some (by kernel_rfl))
  t3:=Tryd.underlying3
  a3:=Tryd.isAgg3
  z3:=Tryd.sizeOf3
  v3:=Tryd.zeroValue3
  t5:=Tryd.underlying5
  a5:=Tryd.isAgg5
  z5:=Tryd.sizeOf5
  v5:=Tryd.zeroValue5
  t9:=Tryd.underlying9
  a9:=Tryd.isAgg9
  z9:=Tryd.sizeOf9
  v9:=Tryd.zeroValue9 }
open Go.RowKit in
theorem Tryd.strings_IndexByte (s : ByteArray) (c : Int) (w : World) :
    Calls Tryd.prog 81 #[.string s,.int .u8 c] w fun e w' => e = .returned (.int .i64 (Lib.indexByte s.data.toList c.toNat.toUInt8)) ∧ w' = w:=Any.strings_IndexByte Tryd.lays137 s c w
def Tryd.laysPu14_ren : Go.Shelf.Ren:=⟨fun|14 => 99|16 => 120|17 => 121|19 => 135|20 => 136|21 => 137|22 => 138|23 => 139|24 => 140|25 => 145|27 => 34|26 => 146|28 => 69|29 => 93|30 => 110|31 => 111|32 => 112|33 => 113|35 => 128|34 => 127|36 => 129|37 => 130|38 => 131|39 => 143|40 => 144|n => n,fun|9 => 9|3 => 3|22 => 162|24 => 78|25 => 163|4 => 4|34 => 200|5 => 5|36 => 183|37 => 70|0 => 0|39 => 202|21 => 21|44 => 212|47 => 127|50 => 218|48 => 216|2 => 2|52 => 177|55 => 180|59 => 193|60 => 194|20 => 20|61 => 195|65 => 214|66 => 215|67 => 87|n => n,fun|0 => 4|1 => 5|2 => 1|3 => 6|4 => 7|n => n⟩
theorem Tryd.laysPu14 : Go.Proofs.LaysPu.n14 Tryd.prog Tryd.laysPu14_ren:={
  mixed:=by kernel_rfl
  f14:=Tryd.func99.trans (congrArg some (by kernel_rfl))
  f16:=Tryd.func120.trans (congrArg some (by kernel_rfl))
  f17:=Tryd.func121.trans (congrArg some (by kernel_rfl))
  f19:=Tryd.func135.trans (congrArg some (by kernel_rfl))
  f20:=Tryd.func136.trans (congrArg some (by kernel_rfl))
  f21:=Tryd.func137.trans (congrArg some (by kernel_rfl))
  f22:=Tryd.func138.trans (congrArg some (by kernel_rfl))
  f23:=Tryd.func139.trans (congrArg some (by kernel_rfl))
  f24:=Tryd.func140.trans (congrArg some (by kernel_rfl))
  f25:=Tryd.func145.trans (congrArg some (by kernel_rfl))
  f26:=Tryd.func146.trans (congrArg some (by kernel_rfl))
  f27:=Tryd.func34.trans (congrArg some (by kernel_rfl))
  f28:=Tryd.func69.trans (congrArg some (by kernel_rfl))
  f29:=Tryd.func93.trans (congrArg some (by kernel_rfl))
  f30:=Tryd.func110.trans (congrArg some (by kernel_rfl))
  f31:=Tryd.func111.trans (congrArg some (by kernel_rfl))
  f32:=Tryd.func112.trans (congrArg some (by kernel_rfl))
  f33:=Tryd.func113.trans (congrArg some (by kernel_rfl))
  f34:=Tryd.func127.trans (congrArg some (by kernel_rfl))
  f35:=Tryd.func128.trans (congrArg some (by kernel_rfl))
  f36:=Tryd.func129.trans (congrArg some (by kernel_rfl))
  f37:=Tryd.func130.trans (congrArg some (by kernel_rfl))
  f38:=Tryd.func131.trans (congrArg some (by kernel_rfl))
  f39:=Tryd.func143.trans (congrArg some (by kernel_rfl))
  f40:=Tryd.func144.trans (congrArg some (by kernel_rfl))
  t0:=Tryd.underlying0
  a0:=Tryd.isAgg0
  z0:=Tryd.sizeOf0
  v0:=Tryd.zeroValue0
  i0:=by kernel_rfl
  t2:=Tryd.underlying2
  a2:=Tryd.isAgg2
  z2:=Tryd.sizeOf2
  v2:=Tryd.zeroValue2
  i2:=by kernel_rfl
  t3:=Tryd.underlying3
  a3:=Tryd.isAgg3
  z3:=Tryd.sizeOf3
  v3:=Tryd.zeroValue3
  i3:=by kernel_rfl
  t4:=Tryd.underlying4
  a4:=Tryd.isAgg4
  z4:=Tryd.sizeOf4
  v4:=Tryd.zeroValue4
  i4:=by kernel_rfl
  t5:=Tryd.underlying5
  a5:=Tryd.isAgg5
  z5:=Tryd.sizeOf5
  v5:=Tryd.zeroValue5
  i5:=by kernel_rfl
  t9:=Tryd.underlying9
  a9:=Tryd.isAgg9
  z9:=Tryd.sizeOf9
  v9:=Tryd.zeroValue9
  i9:=by kernel_rfl
  t20:=Tryd.underlying20
  a20:=Tryd.isAgg20
  z20:=Tryd.sizeOf20
  v20:=Tryd.zeroValue20
  i20:=by kernel_rfl
  t21:=Tryd.underlying21
  a21:=Tryd.isAgg21
  z21:=Tryd.sizeOf21
  v21:=Tryd.zeroValue21
  i21:=by kernel_rfl
  t22:=Tryd.underlying162
  a22:=Tryd.isAgg162
  z22:=Tryd.sizeOf162
  v22:=Tryd.zeroValue162
  i22:=by kernel_rfl
  t24:=Tryd.underlying78
  a24:=Tryd.isAgg78
  z24:=Tryd.sizeOf78
  v24:=Tryd.zeroValue78
  i24:=by kernel_rfl
  t25:=Tryd.underlying163
  a25:=Tryd.isAgg163
  z25:=Tryd.sizeOf163
  v25:=Tryd.zeroValue163
  i25:=by kernel_rfl
  t34:=Tryd.underlying200
  a34:=Tryd.isAgg200
  z34:=Tryd.sizeOf200
  v34:=Tryd.zeroValue200
  i34:=by kernel_rfl
  c34:=by kernel_rfl
  t36:=Tryd.underlying183
  a36:=Tryd.isAgg183
  z36:=Tryd.sizeOf183
  v36:=Tryd.zeroValue183
  i36:=by kernel_rfl
  t37:=Tryd.underlying70
  a37:=Tryd.isAgg70
  z37:=Tryd.sizeOf70
  v37:=Tryd.zeroValue70
  i37:=by kernel_rfl
  t39:=Tryd.underlying202
  a39:=Tryd.isAgg202
  z39:=Tryd.sizeOf202
  v39:=Tryd.zeroValue202
  i39:=by kernel_rfl
  t44:=Tryd.underlying212
  a44:=Tryd.isAgg212
  z44:=Tryd.sizeOf212
  v44:=Tryd.zeroValue212
  i44:=by kernel_rfl
  t47:=Tryd.underlying127
  a47:=Tryd.isAgg127
  z47:=Tryd.sizeOf127
  v47:=Tryd.zeroValue127
  i47:=by kernel_rfl
  t48:=Tryd.underlying216
  a48:=Tryd.isAgg216
  z48:=Tryd.sizeOf216
  v48:=Tryd.zeroValue216
  i48:=by kernel_rfl
  t50:=Tryd.underlying218
  a50:=Tryd.isAgg218
  z50:=Tryd.sizeOf218
  v50:=Tryd.zeroValue218
  i50:=by kernel_rfl
  t52:=Tryd.underlying177
  a52:=Tryd.isAgg177
  z52:=Tryd.sizeOf177
  v52:=Tryd.zeroValue177
  i52:=by kernel_rfl
  t55:=Tryd.underlying180
  a55:=Tryd.isAgg180
  z55:=Tryd.sizeOf180
  v55:=Tryd.zeroValue180
  i55:=by kernel_rfl
  t59:=Tryd.underlying193
  a59:=Tryd.isAgg193
  z59:=Tryd.sizeOf193
  v59:=Tryd.zeroValue193
  i59:=by kernel_rfl
  t60:=Tryd.underlying194
  a60:=Tryd.isAgg194
  z60:=Tryd.sizeOf194
  v60:=Tryd.zeroValue194
  i60:=by kernel_rfl
  t61:=Tryd.underlying195
  a61:=Tryd.isAgg195
  z61:=Tryd.sizeOf195
  t65:=Tryd.underlying214
  a65:=Tryd.isAgg214
  z65:=Tryd.sizeOf214
  v65:=Tryd.zeroValue214
  i65:=by kernel_rfl
  t66:=Tryd.underlying215
  a66:=Tryd.isAgg215
  z66:=Tryd.sizeOf215
  v66:=Tryd.zeroValue215
  i66:=by kernel_rfl
  t67:=Tryd.underlying87
  a67:=Tryd.isAgg87
  z67:=Tryd.sizeOf87
  v67:=Tryd.zeroValue87
  i67:=by kernel_rfl
  g0:=by kernel_rfl
  m0:=by kernel_rfl
  g1:=by kernel_rfl
  m1:=by kernel_rfl
  g2:=by kernel_rfl
  m2:=by kernel_rfl
  g3:=by kernel_rfl
  m3:=by kernel_rfl
  g4:=by kernel_rfl
  m4:=by kernel_rfl }
def Tryd.lays143_ren : Go.Shelf.Ren:=⟨fun|143 => 101|219 => 97|217 => 100|225 => 115|224 => 116|267 => 117|266 => 122|314 => 133|n => n,fun|9 => 9|3 => 3|4 => 4|5 => 5|46 => 183|146 => 198|51 => 194|n => n,fun|1 => 0|n => n⟩
theorem Tryd.lays143 : Go.Proofs.Lays.n143 Tryd.prog Tryd.lays143_ren:={
  mixed:=by kernel_rfl
  f143:=Tryd.func101.trans (congrArg some (by kernel_rfl))
  f217:=Tryd.func100.trans (congrArg some (by kernel_rfl))
  f219:=Tryd.func97.trans (congrArg some (by kernel_rfl))
  f224:=Tryd.func116.trans (congrArg some (by kernel_rfl))
  f225:=Tryd.func115.trans (congrArg some (by kernel_rfl))
  f266:=Tryd.func122.trans (congrArg some (by kernel_rfl))
  f267:=Tryd.func117.trans (congrArg some (by kernel_rfl))
  f314:=Tryd.func133.trans (congrArg some (by kernel_rfl))
  t3:=Tryd.underlying3
  a3:=Tryd.isAgg3
  z3:=Tryd.sizeOf3
  v3:=Tryd.zeroValue3
  t4:=Tryd.underlying4
  a4:=Tryd.isAgg4
  z4:=Tryd.sizeOf4
  v4:=Tryd.zeroValue4
  t5:=Tryd.underlying5
  a5:=Tryd.isAgg5
  z5:=Tryd.sizeOf5
  v5:=Tryd.zeroValue5
  t9:=Tryd.underlying9
  a9:=Tryd.isAgg9
  z9:=Tryd.sizeOf9
  v9:=Tryd.zeroValue9
  t46:=Tryd.underlying183
  a46:=Tryd.isAgg183
  z46:=Tryd.sizeOf183
  v46:=Tryd.zeroValue183
  t51:=Tryd.underlying194
  a51:=Tryd.isAgg194
  z51:=Tryd.sizeOf194
  v51:=Tryd.zeroValue194
  t146:=Tryd.underlying198
  a146:=Tryd.isAgg198
  z146:=Tryd.sizeOf198
  v146:=Tryd.zeroValue198
  g1:=by kernel_rfl }
open Go.RowKit Go.Lib in
theorem Tryd.strings_Index_one (s : ByteArray) (c : UInt8) (w : World) :
    Calls Tryd.prog 101 #[.string s,.string ⟨#[c]⟩] w fun e w' => e = .returned (.int .i64 (Lib.indexByte s.data.toList c)) ∧ w' = w:=Any.strings_Index_one Tryd.lays143 s c w
def Tryd.lays144_ren : Go.Shelf.Ren:=⟨fun|144 => 82|143 => 101|219 => 97|217 => 100|225 => 115|224 => 116|267 => 117|266 => 122|314 => 133|n => n,fun|9 => 9|4 => 4|3 => 3|5 => 5|46 => 183|146 => 198|51 => 194|n => n,fun|1 => 0|n => n⟩
theorem Tryd.lays144 : Go.Proofs.Lays.n144 Tryd.prog Tryd.lays144_ren:={
  mixed:=by kernel_rfl
  f143:=Tryd.func101.trans (congrArg some (by kernel_rfl))
  f144:=Tryd.func82.trans (congrArg some (by kernel_rfl))
  f217:=Tryd.func100.trans (congrArg some (by kernel_rfl))
  f219:=Tryd.func97.trans (congrArg some (by kernel_rfl))
  f224:=Tryd.func116.trans (congrArg some (by kernel_rfl))
  f225:=Tryd.func115.trans (congrArg some (by kernel_rfl))
  f266:=Tryd.func122.trans (congrArg some (by kernel_rfl))
  f267:=Tryd.func117.trans (congrArg some (by kernel_rfl))
  f314:=Tryd.func133.trans (congrArg some (by kernel_rfl))
  t3:=Tryd.underlying3
  a3:=Tryd.isAgg3
  z3:=Tryd.sizeOf3
  v3:=Tryd.zeroValue3
  t4:=Tryd.underlying4
  a4:=Tryd.isAgg4
  z4:=Tryd.sizeOf4
  v4:=Tryd.zeroValue4
  t5:=Tryd.underlying5
  a5:=Tryd.isAgg5
  z5:=Tryd.sizeOf5
  v5:=Tryd.zeroValue5
  t9:=Tryd.underlying9
  a9:=Tryd.isAgg9
  z9:=Tryd.sizeOf9
  v9:=Tryd.zeroValue9
  t46:=Tryd.underlying183
  a46:=Tryd.isAgg183
  z46:=Tryd.sizeOf183
  v46:=Tryd.zeroValue183
  t51:=Tryd.underlying194
  a51:=Tryd.isAgg194
  z51:=Tryd.sizeOf194
  v51:=Tryd.zeroValue194
  t146:=Tryd.underlying198
  a146:=Tryd.isAgg198
  z146:=Tryd.sizeOf198
  v146:=Tryd.zeroValue198
  g1:=by kernel_rfl }
open Go.RowKit Go.Lib in
theorem Tryd.strings_Contains (s sub : ByteArray) (m : Int) (w : World) (hs : s.size < 4294967281) (hm : w.cell? ⟨0,0,none⟩ = some (.int .i64 m)) :
    Calls Tryd.prog 82 #[.string s,.string sub] w fun e w' => e = .returned (.bool (Lib.contains s.data.toList sub.data.toList)) ∧ w' = w:=Any.strings_Contains Tryd.lays144 s sub m w hs hm
def Tryd.lays145_ren : Go.Shelf.Ren:=⟨fun|145 => 49|220 => 77|219 => 97|217 => 100|225 => 115|224 => 116|267 => 117|266 => 122|314 => 133|n => n,fun|9 => 9|4 => 4|59 => 100|3 => 3|5 => 5|46 => 183|146 => 198|51 => 194|n => n,fun|1 => 0|n => n⟩
theorem Tryd.lays145 : Go.Proofs.Lays.n145 Tryd.prog Tryd.lays145_ren:={
  mixed:=by kernel_rfl
  f145:=Tryd.func49.trans (congrArg some (by kernel_rfl))
  f217:=Tryd.func100.trans (congrArg some (by kernel_rfl))
  f219:=Tryd.func97.trans (congrArg some (by kernel_rfl))
  f220:=Tryd.func77.trans (congrArg some (by kernel_rfl))
  f224:=Tryd.func116.trans (congrArg some (by kernel_rfl))
  f225:=Tryd.func115.trans (congrArg some (by kernel_rfl))
  f266:=Tryd.func122.trans (congrArg some (by kernel_rfl))
  f267:=Tryd.func117.trans (congrArg some (by kernel_rfl))
  f314:=Tryd.func133.trans (congrArg some (by kernel_rfl))
  t3:=Tryd.underlying3
  a3:=Tryd.isAgg3
  z3:=Tryd.sizeOf3
  v3:=Tryd.zeroValue3
  t4:=Tryd.underlying4
  a4:=Tryd.isAgg4
  z4:=Tryd.sizeOf4
  v4:=Tryd.zeroValue4
  t5:=Tryd.underlying5
  a5:=Tryd.isAgg5
  z5:=Tryd.sizeOf5
  v5:=Tryd.zeroValue5
  t9:=Tryd.underlying9
  a9:=Tryd.isAgg9
  z9:=Tryd.sizeOf9
  v9:=Tryd.zeroValue9
  t46:=Tryd.underlying183
  a46:=Tryd.isAgg183
  z46:=Tryd.sizeOf183
  v46:=Tryd.zeroValue183
  t51:=Tryd.underlying194
  a51:=Tryd.isAgg194
  z51:=Tryd.sizeOf194
  v51:=Tryd.zeroValue194
  t59:=Tryd.underlying100
  a59:=Tryd.isAgg100
  z59:=Tryd.sizeOf100
  v59:=Tryd.zeroValue100
  t146:=Tryd.underlying198
  a146:=Tryd.isAgg198
  z146:=Tryd.sizeOf198
  v146:=Tryd.zeroValue198
  g1:=by kernel_rfl }
open Go.RowKit Go.Lib in
theorem Tryd.strings_Cut (s sep : ByteArray) (m : Int) (w : World) (hs : s.size < 4294967281) (hm : w.cell? ⟨0,0,none⟩ = some (.int .i64 m)) :
    Calls Tryd.prog 49 #[.string s,.string sep] w fun e w' => e = .returned (.tuple #[.string ⟨(Lib.cut s.data.toList sep.data.toList).1.toArray⟩,.string ⟨(Lib.cut s.data.toList sep.data.toList).2.1.toArray⟩,.bool (Lib.cut s.data.toList sep.data.toList).2.2]) ∧ ∃ n,w' = w.drewN n:=Any.strings_Cut Tryd.lays145 s sep m w hs hm
open Go.RowKit
end Go.Proofs

