import Derived.Shelf.Strings.Builder1
import Derived.Shelf.Small.Strs
import Derived.Shelf.Small.Wraps
import Derived.Shelf.Strings.BuilderF
import Derived.Shelf.Strings.BuilderK
import Derived.Shelf.Strconv.Itoa0
import Derived.Shelf.Strconv.Itoa1
import Derived.Shelf.LaysM
import Derived.Shelf.Strconv.Itoa2
import Derived.Shelf.Strconv.Itoa3
import Derived.Ground.MpProg
import Derived.Shelf.Pu.ParseUintPublic10
import Derived.Shelf.Pu.ErrVarParseUint
import Derived.Shelf.Strings.Search1
import Derived.Shelf.Strings.Search2
import Derived.Shelf.Strings.Search3
import Derived.Shelf.Strings.Cut
import Derived.Shelf.Strings.Shaped
import Derived.Shelf.Strings.Prefix
import Derived.Shelf.Unicode.Decode
import Derived.Shelf.Unicode.DecodeSlow
import Derived.Shelf.Unicode.DecodeAny
import Derived.Shelf.Strings.BuilderCap
import Derived.Shelf.Slices.Reverse
import Derived.Shelf.Slices.Equal
import Derived.Shelf.Slices.Empties2
import Derived.Test.YtojepjkpnponoaaDoorProg
set_option linter.unusedVariables false
set_option linter.unusedSimpArgs false
namespace Go.Proofs
open Go.Shelf
def Tryd.lays170_ren : Go.Shelf.Ren:=⟨fun|170 => 37|n => n,fun|70 => 74|3 => 3|0 => 0|72 => 76|37 => 70|5 => 5|n => n,fun|n => n⟩
theorem Tryd.lays170 : Go.Proofs.Lays.n170 Tryd.prog Tryd.lays170_ren:={
  mixed:=by kernel_rfl
  f170:=Tryd.func37.trans (congrArg some (by kernel_rfl))
  t0:=Tryd.underlying0
  a0:=Tryd.isAgg0
  z0:=Tryd.sizeOf0
  v0:=Tryd.zeroValue0
  t3:=Tryd.underlying3
  a3:=Tryd.isAgg3
  z3:=Tryd.sizeOf3
  v3:=Tryd.zeroValue3
  t37:=Tryd.underlying70
  a37:=Tryd.isAgg70
  z37:=Tryd.sizeOf70
  v37:=Tryd.zeroValue70
  t70:=Tryd.underlying74
  a70:=Tryd.isAgg74
  z70:=Tryd.sizeOf74
  v70:=Tryd.zeroValue74
  t72:=Tryd.underlying76
  a72:=Tryd.isAgg76
  z72:=Tryd.sizeOf76
  v72:=Tryd.zeroValue76 }
def Tryd.lays169_ren : Go.Shelf.Ren:=⟨fun|169 => 38|n => n,fun|70 => 74|9 => 9|0 => 0|72 => 76|37 => 70|127 => 127|3 => 3|5 => 5|n => n,fun|n => n⟩
theorem Tryd.lays169 : Go.Proofs.Lays.n169 Tryd.prog Tryd.lays169_ren:={
  mixed:=by kernel_rfl
  f169:=Tryd.func38.trans (congrArg some (by kernel_rfl))
  t0:=Tryd.underlying0
  a0:=Tryd.isAgg0
  z0:=Tryd.sizeOf0
  v0:=Tryd.zeroValue0
  t3:=Tryd.underlying3
  a3:=Tryd.isAgg3
  z3:=Tryd.sizeOf3
  v3:=Tryd.zeroValue3
  t9:=Tryd.underlying9
  a9:=Tryd.isAgg9
  z9:=Tryd.sizeOf9
  v9:=Tryd.zeroValue9
  t37:=Tryd.underlying70
  a37:=Tryd.isAgg70
  z37:=Tryd.sizeOf70
  v37:=Tryd.zeroValue70
  t70:=Tryd.underlying74
  a70:=Tryd.isAgg74
  z70:=Tryd.sizeOf74
  v70:=Tryd.zeroValue74
  t72:=Tryd.underlying76
  a72:=Tryd.isAgg76
  z72:=Tryd.sizeOf76
  v72:=Tryd.zeroValue76
  t127:=Tryd.underlying127
  a127:=Tryd.isAgg127
  z127:=Tryd.sizeOf127
  v127:=Tryd.zeroValue127 }
theorem Tryd.Builder_Extra_169 : Builder.Extra Tryd.prog Tryd.lays169_ren:={
  sizeBuilder:=by kernel_rfl
  liesBuilder:=by kernel_rfl
  t5:=Tryd.underlying5
  a5:=Tryd.isAgg5
  z5:=Tryd.sizeOf5
  v5:=Tryd.zeroValue5
  infoByte:=by kernel_rfl
  cellsByte:=by kernel_rfl
  sizeByte:=by kernel_rfl
  neB5:=by decide }
def Tryd.lays103_ren : Go.Shelf.Ren:=⟨fun|103 => 96|210 => 114|206 => 132|n => n,fun|9 => 9|4 => 4|24 => 130|3 => 3|n => n,fun|n => n⟩
theorem Tryd.lays103 : Go.Proofs.Lays.n103 Tryd.prog Tryd.lays103_ren:={
  mixed:=by kernel_rfl
  f103:=Tryd.func96.trans (congrArg some (by kernel_rfl))
  f206:=Tryd.func132.trans (congrArg some (by kernel_rfl))
  f210:=Tryd.func114.trans (congrArg some (by kernel_rfl))
  t3:=Tryd.underlying3
  a3:=Tryd.isAgg3
  z3:=Tryd.sizeOf3
  v3:=Tryd.zeroValue3
  t4:=Tryd.underlying4
  a4:=Tryd.isAgg4
  z4:=Tryd.sizeOf4
  v4:=Tryd.zeroValue4
  t9:=Tryd.underlying9
  a9:=Tryd.isAgg9
  z9:=Tryd.sizeOf9
  v9:=Tryd.zeroValue9
  t24:=Tryd.underlying130
  a24:=Tryd.isAgg130
  z24:=Tryd.sizeOf130
  v24:=Tryd.zeroValue130 }
open Go.RowKit in
theorem Tryd.strings_CutPrefix (s p : ByteArray) (w : World) :
    Calls Tryd.prog 96 #[.string s,.string p] w fun e w' => e = .returned (.tuple #[.string ⟨(Lib.trimPrefix s.data.toList p.data.toList).toArray⟩,.bool (Lib.hasPrefix s.data.toList p.data.toList)]) ∧ w' = w:=Any.strings_CutPrefix Tryd.lays103 s p w
open Go.RowKit in
theorem Tryd.Builder_Len_f (B b : Nat) (bs : List Value) (w : World) (h : Lib.IsBuilderF 76 5 B b bs w) :
    Calls Tryd.prog 37 #[.pointer (some ⟨b,0,none⟩)] w fun e w' => e = .returned (.int .i64 bs.length) ∧ w' = w:=Any.Builder_Len_f Tryd.lays170 B b bs w h
open Go.RowKit in
theorem Tryd.Builder_String_any_k (B b : Nat) (l : List UInt8) (w : World) (h : Lib.IsBuilderF 76 5 B b (Lib.byteCells l) w) (hBw : B ≤ w.heap.size) :
    Calls Tryd.prog 38 #[.pointer (some ⟨b,0,none⟩)] w fun e w' => e = .returned (.string ⟨l.toArray⟩) ∧ (Lib.IsBuilderF 76 5 B b (Lib.byteCells l) w' ∧ Below B w w' ∧ Lib.OthersKept 5 (some b) w w'):=Any.Builder_String_any_k Tryd.lays169 Tryd.Builder_Extra_169 B b l w h hBw
def Tryd.laysM171_ren : Go.Shelf.Ren:=⟨fun|171 => 34|243 => 69|246 => 93|283 => 110|284 => 111|285 => 112|286 => 113|129 => 128|317 => 127|318 => 129|319 => 130|320 => 131|337 => 143|338 => 144|n => n,fun|3 => 3|9 => 9|2 => 2|4 => 4|171 => 177|0 => 0|53 => 162|37 => 70|5 => 5|173 => 180|212 => 193|51 => 194|20 => 20|213 => 195|46 => 183|232 => 214|233 => 215|n => n,fun|17 => 1|18 => 6|19 => 7|n => n⟩
theorem Tryd.laysM171 : Go.Proofs.LaysM.n171 Tryd.prog Tryd.laysM171_ren:={
  mixed:=by kernel_rfl
  f129:=Tryd.func128.trans (congrArg some (by kernel_rfl))
  f171:=Tryd.func34.trans (congrArg some (by kernel_rfl))
  f243:=Tryd.func69.trans (congrArg some (by kernel_rfl))
  f246:=Tryd.func93.trans (congrArg some (by kernel_rfl))
  f283:=Tryd.func110.trans (congrArg some (by kernel_rfl))
  f284:=Tryd.func111.trans (congrArg some (by kernel_rfl))
  f285:=Tryd.func112.trans (congrArg some (by kernel_rfl))
  f286:=Tryd.func113.trans (congrArg some (by kernel_rfl))
  f317:=Tryd.func127.trans (congrArg some (by kernel_rfl))
  f318:=Tryd.func129.trans (congrArg some (by kernel_rfl))
  f319:=Tryd.func130.trans (congrArg some (by kernel_rfl))
  f320:=Tryd.func131.trans (congrArg some (by kernel_rfl))
  f337:=Tryd.func143.trans (congrArg some (by kernel_rfl))
  f338:=Tryd.func144.trans (congrArg some (by kernel_rfl))
  t0:=Tryd.underlying0
  a0:=Tryd.isAgg0
  z0:=Tryd.sizeOf0
  v0:=Tryd.zeroValue0
  t2:=Tryd.underlying2
  a2:=Tryd.isAgg2
  z2:=Tryd.sizeOf2
  v2:=Tryd.zeroValue2
  t3:=Tryd.underlying3
  a3:=Tryd.isAgg3
  z3:=Tryd.sizeOf3
  v3:=Tryd.zeroValue3
  t4:=Tryd.underlying4
  a4:=Tryd.isAgg4
  z4:=Tryd.sizeOf4
  v4:=Tryd.zeroValue4
  t5:=Tryd.underlying5
  a5:=Tryd.isAgg5
  z5:=Tryd.sizeOf5
  v5:=Tryd.zeroValue5
  t9:=Tryd.underlying9
  a9:=Tryd.isAgg9
  z9:=Tryd.sizeOf9
  v9:=Tryd.zeroValue9
  t20:=Tryd.underlying20
  a20:=Tryd.isAgg20
  z20:=Tryd.sizeOf20
  v20:=Tryd.zeroValue20
  t37:=Tryd.underlying70
  a37:=Tryd.isAgg70
  z37:=Tryd.sizeOf70
  v37:=Tryd.zeroValue70
  t46:=Tryd.underlying183
  a46:=Tryd.isAgg183
  z46:=Tryd.sizeOf183
  v46:=Tryd.zeroValue183
  t51:=Tryd.underlying194
  a51:=Tryd.isAgg194
  z51:=Tryd.sizeOf194
  v51:=Tryd.zeroValue194
  t53:=Tryd.underlying162
  a53:=Tryd.isAgg162
  z53:=Tryd.sizeOf162
  v53:=Tryd.zeroValue162
  t171:=Tryd.underlying177
  a171:=Tryd.isAgg177
  z171:=Tryd.sizeOf177
  v171:=Tryd.zeroValue177
  t173:=Tryd.underlying180
  a173:=Tryd.isAgg180
  z173:=Tryd.sizeOf180
  v173:=Tryd.zeroValue180
  t212:=Tryd.underlying193
  a212:=Tryd.isAgg193
  z212:=Tryd.sizeOf193
  v212:=Tryd.zeroValue193
  t213:=Tryd.underlying195
  a213:=Tryd.isAgg195
  z213:=Tryd.sizeOf195
  t232:=Tryd.underlying214
  a232:=Tryd.isAgg214
  z232:=Tryd.sizeOf214
  v232:=Tryd.zeroValue214
  t233:=Tryd.underlying215
  a233:=Tryd.isAgg215
  z233:=Tryd.sizeOf215
  v233:=Tryd.zeroValue215
  g17:=by kernel_rfl
  g18:=by kernel_rfl
  g19:=by kernel_rfl
  i0:=by kernel_rfl
  i2:=by kernel_rfl
  i3:=by kernel_rfl
  i4:=by kernel_rfl
  i5:=by kernel_rfl
  i9:=by kernel_rfl
  i20:=by kernel_rfl
  i37:=by kernel_rfl
  i46:=by kernel_rfl
  i51:=by kernel_rfl
  i53:=by kernel_rfl
  i171:=by kernel_rfl
  i173:=by kernel_rfl
  i212:=by kernel_rfl
  i232:=by kernel_rfl
  i233:=by kernel_rfl
  m17:=by kernel_rfl
  m18:=by kernel_rfl
  m19:=by kernel_rfl }
open Go.RowKit Go.Sort Go.Lib in
theorem Tryd.strconv_Itoa (n : Int) (h0 : -9223372036854775808 ≤ n) (h1 : n ≤ 9223372036854775807) (w : World) (htab : Lib.TabIs Tryd.prog w "internal/strconv.uint64pow10" .u64 Lib.pow10Tab) :
    Calls Tryd.prog 34 #[.int .i64 n] w fun e w' => e = .returned (.string ⟨(Lib.itoa n).toArray⟩) ∧ ∃ k os,w' = grow (w.drewN k) os:=Any.strconv_Itoa Tryd.laysM171 n h0 h1 w htab
def Tryd.laysPu14_ren : Go.Shelf.Ren:=⟨fun|14 => 99|16 => 120|17 => 121|19 => 135|20 => 136|21 => 137|22 => 138|23 => 139|24 => 140|25 => 145|27 => 34|26 => 146|28 => 69|29 => 93|30 => 110|31 => 111|32 => 112|33 => 113|35 => 128|34 => 127|36 => 129|37 => 130|38 => 131|39 => 143|40 => 144|n => n,fun|9 => 9|3 => 3|22 => 162|24 => 78|25 => 163|4 => 4|34 => 200|5 => 5|36 => 183|37 => 70|0 => 0|39 => 202|21 => 21|44 => 212|47 => 127|50 => 218|48 => 216|2 => 2|52 => 177|55 => 180|59 => 193|60 => 194|20 => 20|61 => 195|65 => 214|66 => 215|67 => 87|n => n,fun|0 => 4|1 => 5|2 => 1|3 => 6|4 => 7|n => n⟩
theorem Tryd.laysPu14 : Go.Proofs.LaysPu.n14 Tryd.prog Tryd.laysPu14_ren:={
  mixed:=by kernel_rfl
  f14:=Tryd.func99.trans (congrArg some (by kernel_rfl))
  f16:=Tryd.func120.trans (congrArg some (by kernel_rfl))
  f17:=Tryd.func121.trans (congrArg some (by kernel_rfl))
  f19:=Tryd.func135.trans (congrArg some (by kernel_rfl))
  f20:=Tryd.func136.trans (congrArg some (by kernel_rfl))
  f21:=Tryd.func137.trans (congrArg some (by kernel_rfl))
  f22:=Tryd.func138.trans (congrArg some (by kernel_rfl))
  f23:=Tryd.func139.trans (congrArg some (by kernel_rfl))
  f24:=Tryd.func140.trans (congrArg some (by kernel_rfl))
  f25:=Tryd.func145.trans (congrArg some (by kernel_rfl))
  f26:=Tryd.func146.trans (congrArg some (by kernel_rfl))
  f27:=Tryd.func34.trans (congrArg some (by kernel_rfl))
  f28:=Tryd.func69.trans (congrArg some (by kernel_rfl))
  f29:=Tryd.func93.trans (congrArg some (by kernel_rfl))
  f30:=Tryd.func110.trans (congrArg some (by kernel_rfl))
  f31:=Tryd.func111.trans (congrArg some (by kernel_rfl))
  f32:=Tryd.func112.trans (congrArg some (by kernel_rfl))
  f33:=Tryd.func113.trans (congrArg some (by kernel_rfl))
  f34:=Tryd.func127.trans (congrArg some (by kernel_rfl))
  f35:=Tryd.func128.trans (congrArg some (by kernel_rfl))
  f36:=Tryd.func129.trans (congrArg some (by kernel_rfl))
  f37:=Tryd.func130.trans (congrArg some (by kernel_rfl))
  f38:=Tryd.func131.trans (congrArg some (by kernel_rfl))
  f39:=Tryd.func143.trans (congrArg some (by kernel_rfl))
  f40:=Tryd.func144.trans (congrArg some (by kernel_rfl))
  t0:=Tryd.underlying0
  a0:=Tryd.isAgg0
  z0:=Tryd.sizeOf0
  v0:=Tryd.zeroValue0
  i0:=by kernel_rfl
  t2:=Tryd.underlying2
  a2:=Tryd.isAgg2
  z2:=Tryd.sizeOf2
  v2:=Tryd.zeroValue2
  i2:=by kernel_rfl
  t3:=Tryd.underlying3
  a3:=Tryd.isAgg3
  z3:=Tryd.sizeOf3
  v3:=Tryd.zeroValue3
  i3:=by kernel_rfl
  t4:=Tryd.underlying4
  a4:=Tryd.isAgg4
  z4:=Tryd.sizeOf4
  v4:=Tryd.zeroValue4
  i4:=by kernel_rfl
  t5:=Tryd.underlying5
  a5:=Tryd.isAgg5
  z5:=Tryd.sizeOf5
  v5:=Tryd.zeroValue5
  i5:=by kernel_rfl
  t9:=Tryd.underlying9
  a9:=Tryd.isAgg9
  z9:=Tryd.sizeOf9
  v9:=Tryd.zeroValue9
  i9:=by kernel_rfl
  t20:=Tryd.underlying20
  a20:=Tryd.isAgg20
  z20:=Tryd.sizeOf20
  v20:=Tryd.zeroValue20
  i20:=by kernel_rfl
  t21:=Tryd.underlying21
  a21:=Tryd.isAgg21
  z21:=Tryd.sizeOf21
  v21:=Tryd.zeroValue21
  i21:=by kernel_rfl
  t22:=Tryd.underlying162
  a22:=Tryd.isAgg162
  z22:=Tryd.sizeOf162
  v22:=Tryd.zeroValue162
  i22:=by kernel_rfl
  t24:=Tryd.underlying78
  a24:=Tryd.isAgg78
  z24:=Tryd.sizeOf78
  v24:=Tryd.zeroValue78
  i24:=by kernel_rfl
  t25:=Tryd.underlying163
  a25:=Tryd.isAgg163
  z25:=Tryd.sizeOf163
  v25:=Tryd.zeroValue163
  i25:=by kernel_rfl
  t34:=Tryd.underlying200
  a34:=Tryd.isAgg200
  z34:=Tryd.sizeOf200
  v34:=Tryd.zeroValue200
  i34:=by kernel_rfl
  c34:=by kernel_rfl
  t36:=Tryd.underlying183
  a36:=Tryd.isAgg183
  z36:=Tryd.sizeOf183
  v36:=Tryd.zeroValue183
  i36:=by kernel_rfl
  t37:=Tryd.underlying70
  a37:=Tryd.isAgg70
  z37:=Tryd.sizeOf70
  v37:=Tryd.zeroValue70
  i37:=by kernel_rfl
  t39:=Tryd.underlying202
  a39:=Tryd.isAgg202
  z39:=Tryd.sizeOf202
  v39:=Tryd.zeroValue202
  i39:=by kernel_rfl
  t44:=Tryd.underlying212
  a44:=Tryd.isAgg212
  z44:=Tryd.sizeOf212
  v44:=Tryd.zeroValue212
  i44:=by kernel_rfl
  t47:=Tryd.underlying127
  a47:=Tryd.isAgg127
  z47:=Tryd.sizeOf127
  v47:=Tryd.zeroValue127
  i47:=by kernel_rfl
  t48:=Tryd.underlying216
  a48:=Tryd.isAgg216
  z48:=Tryd.sizeOf216
  v48:=Tryd.zeroValue216
  i48:=by kernel_rfl
  t50:=Tryd.underlying218
  a50:=Tryd.isAgg218
  z50:=Tryd.sizeOf218
  v50:=Tryd.zeroValue218
  i50:=by kernel_rfl
  t52:=Tryd.underlying177
  a52:=Tryd.isAgg177
  z52:=Tryd.sizeOf177
  v52:=Tryd.zeroValue177
  i52:=by kernel_rfl
  t55:=Tryd.underlying180
  a55:=Tryd.isAgg180
  z55:=Tryd.sizeOf180
  v55:=Tryd.zeroValue180
  i55:=by kernel_rfl
  t59:=Tryd.underlying193
  a59:=Tryd.isAgg193
  z59:=Tryd.sizeOf193
  v59:=Tryd.zeroValue193
  i59:=by kernel_rfl
  t60:=Tryd.underlying194
  a60:=Tryd.isAgg194
  z60:=Tryd.sizeOf194
  v60:=Tryd.zeroValue194
  i60:=by kernel_rfl
  t61:=Tryd.underlying195
  a61:=Tryd.isAgg195
  z61:=Tryd.sizeOf195
  t65:=Tryd.underlying214
  a65:=Tryd.isAgg214
  z65:=Tryd.sizeOf214
  v65:=Tryd.zeroValue214
  i65:=by kernel_rfl
  t66:=Tryd.underlying215
  a66:=Tryd.isAgg215
  z66:=Tryd.sizeOf215
  v66:=Tryd.zeroValue215
  i66:=by kernel_rfl
  t67:=Tryd.underlying87
  a67:=Tryd.isAgg87
  z67:=Tryd.sizeOf87
  v67:=Tryd.zeroValue87
  i67:=by kernel_rfl
  g0:=by kernel_rfl
  m0:=by kernel_rfl
  g1:=by kernel_rfl
  m1:=by kernel_rfl
  g2:=by kernel_rfl
  m2:=by kernel_rfl
  g3:=by kernel_rfl
  m3:=by kernel_rfl
  g4:=by kernel_rfl
  m4:=by kernel_rfl }
def Tryd.lays143_ren : Go.Shelf.Ren:=⟨fun|143 => 101|219 => 97|217 => 100|225 => 115|224 => 116|267 => 117|266 => 122|314 => 133|n => n,fun|9 => 9|3 => 3|4 => 4|5 => 5|46 => 183|146 => 198|51 => 194|n => n,fun|1 => 0|n => n⟩
theorem Tryd.lays143 : Go.Proofs.Lays.n143 Tryd.prog Tryd.lays143_ren:={
  mixed:=by kernel_rfl
  f143:=Tryd.func101.trans (congrArg some (by kernel_rfl))
  f217:=Tryd.func100.trans (congrArg some (by kernel_rfl))
  f219:=Tryd.func97.trans (congrArg some (by kernel_rfl))
  f224:=Tryd.func116.trans (congrArg some (by kernel_rfl))
  f225:=Tryd.func115.trans (congrArg some (by kernel_rfl))
  f266:=Tryd.func122.trans (congrArg some (by kernel_rfl))
  f267:=Tryd.func117.trans (congrArg some (by kernel_rfl))
  f314:=Tryd.func133.trans (congrArg some (by kernel_rfl))
  t3:=Tryd.underlying3
  a3:=Tryd.isAgg3
  z3:=Tryd.sizeOf3
  v3:=Tryd.zeroValue3
  t4:=Tryd.underlying4
  a4:=Tryd.isAgg4
  z4:=Tryd.sizeOf4
  v4:=Tryd.zeroValue4
  t5:=Tryd.underlying5
  a5:=Tryd.isAgg5
  z5:=Tryd.sizeOf5
  v5:=Tryd.zeroValue5
  t9:=Tryd.underlying9
  a9:=Tryd.isAgg9
  z9:=Tryd.sizeOf9
  v9:=Tryd.zeroValue9
  t46:=Tryd.underlying183
  a46:=Tryd.isAgg183
  z46:=Tryd.sizeOf183
  v46:=Tryd.zeroValue183
  t51:=Tryd.underlying194
  a51:=Tryd.isAgg194
  z51:=Tryd.sizeOf194
  v51:=Tryd.zeroValue194
  t146:=Tryd.underlying198
  a146:=Tryd.isAgg198
  z146:=Tryd.sizeOf198
  v146:=Tryd.zeroValue198
  g1:=by kernel_rfl }
open Go.RowKit Go.Lib in
theorem Tryd.strings_Index_one (s : ByteArray) (c : UInt8) (w : World) :
    Calls Tryd.prog 101 #[.string s,.string ⟨#[c]⟩] w fun e w' => e = .returned (.int .i64 (Lib.indexByte s.data.toList c)) ∧ w' = w:=Any.strings_Index_one Tryd.lays143 s c w
def Tryd.lays145_ren : Go.Shelf.Ren:=⟨fun|145 => 49|220 => 77|219 => 97|217 => 100|225 => 115|224 => 116|267 => 117|266 => 122|314 => 133|n => n,fun|9 => 9|4 => 4|59 => 100|3 => 3|5 => 5|46 => 183|146 => 198|51 => 194|n => n,fun|1 => 0|n => n⟩
theorem Tryd.lays145 : Go.Proofs.Lays.n145 Tryd.prog Tryd.lays145_ren:={
  mixed:=by kernel_rfl
  f145:=Tryd.func49.trans (congrArg some (by kernel_rfl))
  f217:=Tryd.func100.trans (congrArg some (by kernel_rfl))
  f219:=Tryd.func97.trans (congrArg some (by kernel_rfl))
  f220:=Tryd.func77.trans (congrArg some (by kernel_rfl))
  f224:=Tryd.func116.trans (congrArg some (by kernel_rfl))
  f225:=Tryd.func115.trans (congrArg some (by kernel_rfl))
  f266:=Tryd.func122.trans (congrArg some (by kernel_rfl))
  f267:=Tryd.func117.trans (congrArg some (by kernel_rfl))
  f314:=Tryd.func133.trans (congrArg some (by kernel_rfl))
  t3:=Tryd.underlying3
  a3:=Tryd.isAgg3
  z3:=Tryd.sizeOf3
  v3:=Tryd.zeroValue3
  t4:=Tryd.underlying4
  a4:=Tryd.isAgg4
  z4:=Tryd.sizeOf4
  v4:=Tryd.zeroValue4
  t5:=Tryd.underlying5
  a5:=Tryd.isAgg5
  z5:=Tryd.sizeOf5
  v5:=Tryd.zeroValue5
  t9:=Tryd.underlying9
  a9:=Tryd.isAgg9
  z9:=Tryd.sizeOf9
  v9:=Tryd.zeroValue9
  t46:=Tryd.underlying183
  a46:=Tryd.isAgg183
  z46:=Tryd.sizeOf183
  v46:=Tryd.zeroValue183
  t51:=Tryd.underlying194
  a51:=Tryd.isAgg194
  z51:=Tryd.sizeOf194
  v51:=Tryd.zeroValue194
  t59:=Tryd.underlying100
  a59:=Tryd.isAgg100
  z59:=Tryd.sizeOf100
  v59:=Tryd.zeroValue100
  t146:=Tryd.underlying198
  a146:=Tryd.isAgg198
  z146:=Tryd.sizeOf198
  v146:=Tryd.zeroValue198
  g1:=by kernel_rfl }
open Go.RowKit Go.Lib in
theorem Tryd.strings_Cut (s sep : ByteArray) (m : Int) (w : World) (hs : s.size < 4294967281) (hm : w.cell? ⟨0,0,none⟩ = some (.int .i64 m)) :
    Calls Tryd.prog 49 #[.string s,.string sep] w fun e w' => e = .returned (.tuple #[.string ⟨(Lib.cut s.data.toList sep.data.toList).1.toArray⟩,.string ⟨(Lib.cut s.data.toList sep.data.toList).2.1.toArray⟩,.bool (Lib.cut s.data.toList sep.data.toList).2.2]) ∧ ∃ n,w' = w.drewN n:=Any.strings_Cut Tryd.lays145 s sep m w hs hm
def Tryd.lays206_ren : Go.Shelf.Ren:=⟨fun|206 => 132|n => n,fun|9 => 9|4 => 4|3 => 3|n => n,fun|n => n⟩
theorem Tryd.lays206 : Go.Proofs.Lays.n206 Tryd.prog Tryd.lays206_ren:={
  mixed:=by kernel_rfl
  f206:=Tryd.func132.trans (congrArg some (by kernel_rfl))
  t3:=Tryd.underlying3
  a3:=Tryd.isAgg3
  z3:=Tryd.sizeOf3
  v3:=Tryd.zeroValue3
  t4:=Tryd.underlying4
  a4:=Tryd.isAgg4
  z4:=Tryd.sizeOf4
  v4:=Tryd.zeroValue4
  t9:=Tryd.underlying9
  a9:=Tryd.isAgg9
  z9:=Tryd.sizeOf9
  v9:=Tryd.zeroValue9 }
open Go.RowKit Go.Lib in
theorem Tryd.stringslite_HasPrefix (s p : ByteArray) (w : World) :
    Calls Tryd.prog 132 #[.string s,.string p] w fun e w' => e = .returned (.bool (Lib.hasPrefix s.data.toList p.data.toList)) ∧ w' = w:=Any.stringslite_HasPrefix Tryd.lays206 s p w
open Go.RowKit
def Tryd.laysB_ren : Go.Shelf.Ren:=⟨fun|166 => 33|167 => 35|240 => 68|276 => 92|n => n,fun|0 => 0|3 => 3|4 => 4|5 => 5|9 => 9|20 => 20|37 => 70|70 => 74|72 => 76|75 => 78|80 => 87|164 => 154|n => n,fun|n => n⟩
theorem Tryd.laysB166 : Go.Proofs.Lays.n166 Tryd.prog Tryd.laysB_ren:={
  mixed:=by kernel_rfl
  f166:=Tryd.func33.trans (congrArg some (by kernel_rfl))
  f240:=Tryd.func68.trans (congrArg some (by kernel_rfl))
  f276:=Tryd.func92.trans (congrArg some (by kernel_rfl))
  t0:=Tryd.underlying0
  a0:=Tryd.isAgg0
  z0:=Tryd.sizeOf0
  v0:=Tryd.zeroValue0
  t3:=Tryd.underlying3
  a3:=Tryd.isAgg3
  z3:=Tryd.sizeOf3
  v3:=Tryd.zeroValue3
  t4:=Tryd.underlying4
  a4:=Tryd.isAgg4
  z4:=Tryd.sizeOf4
  v4:=Tryd.zeroValue4
  t9:=Tryd.underlying9
  a9:=Tryd.isAgg9
  z9:=Tryd.sizeOf9
  v9:=Tryd.zeroValue9
  t20:=Tryd.underlying20
  a20:=Tryd.isAgg20
  z20:=Tryd.sizeOf20
  v20:=Tryd.zeroValue20
  t37:=Tryd.underlying70
  a37:=Tryd.isAgg70
  z37:=Tryd.sizeOf70
  v37:=Tryd.zeroValue70
  t70:=Tryd.underlying74
  a70:=Tryd.isAgg74
  z70:=Tryd.sizeOf74
  v70:=Tryd.zeroValue74
  t72:=Tryd.underlying76
  a72:=Tryd.isAgg76
  z72:=Tryd.sizeOf76
  v72:=Tryd.zeroValue76
  t75:=Tryd.underlying78
  a75:=Tryd.isAgg78
  z75:=Tryd.sizeOf78
  v75:=Tryd.zeroValue78
  t164:=Tryd.underlying154
  a164:=Tryd.isAgg154
  z164:=Tryd.sizeOf154
  v164:=Tryd.zeroValue154 }
theorem Tryd.laysB167 : Go.Proofs.Lays.n167 Tryd.prog Tryd.laysB_ren:={
  mixed:=by kernel_rfl
  f167:=Tryd.func35.trans (congrArg some (by kernel_rfl))
  f240:=Tryd.func68.trans (congrArg some (by kernel_rfl))
  f276:=Tryd.func92.trans (congrArg some (by kernel_rfl))
  t0:=Tryd.underlying0
  a0:=Tryd.isAgg0
  z0:=Tryd.sizeOf0
  v0:=Tryd.zeroValue0
  t4:=Tryd.underlying4
  a4:=Tryd.isAgg4
  z4:=Tryd.sizeOf4
  v4:=Tryd.zeroValue4
  t5:=Tryd.underlying5
  a5:=Tryd.isAgg5
  z5:=Tryd.sizeOf5
  v5:=Tryd.zeroValue5
  t9:=Tryd.underlying9
  a9:=Tryd.isAgg9
  z9:=Tryd.sizeOf9
  v9:=Tryd.zeroValue9
  t20:=Tryd.underlying20
  a20:=Tryd.isAgg20
  z20:=Tryd.sizeOf20
  v20:=Tryd.zeroValue20
  t37:=Tryd.underlying70
  a37:=Tryd.isAgg70
  z37:=Tryd.sizeOf70
  v37:=Tryd.zeroValue70
  t70:=Tryd.underlying74
  a70:=Tryd.isAgg74
  z70:=Tryd.sizeOf74
  v70:=Tryd.zeroValue74
  t72:=Tryd.underlying76
  a72:=Tryd.isAgg76
  z72:=Tryd.sizeOf76
  v72:=Tryd.zeroValue76
  t75:=Tryd.underlying78
  a75:=Tryd.isAgg78
  z75:=Tryd.sizeOf78
  v75:=Tryd.zeroValue78
  t164:=Tryd.underlying154
  a164:=Tryd.isAgg154
  z164:=Tryd.sizeOf154
  v164:=Tryd.zeroValue154 }
theorem Tryd.laysB_Extra : Builder.Extra Tryd.prog Tryd.laysB_ren:={
  sizeBuilder:=by kernel_rfl
  liesBuilder:=by kernel_rfl
  t5:=Tryd.underlying5
  a5:=Tryd.isAgg5
  z5:=Tryd.sizeOf5
  v5:=Tryd.zeroValue5
  infoByte:=by kernel_rfl
  cellsByte:=by kernel_rfl
  sizeByte:=by kernel_rfl
  neB5:=by decide }
theorem Tryd.Builder_WriteByte_k (B b : Nat) (bs : List Value) (c : Int) (w : World) (h : Lib.IsBuilderF 76 5 B b bs w) (hlen : bs.length + 1 ≤ 140737488355328) (hBw : B ≤ w.heap.size) :
    Calls Tryd.prog 35 #[.pointer (some ⟨b,0,none⟩),.int .u8 c] w fun e w' => e = .returned .nilIface ∧ (Lib.BuilderAtF 76 5 B b (.pointer (some ⟨b,0,none⟩)) (bs ++ [.int .u8 c]) w' ∧ Below B w w' ∧ Lib.OthersKept 5 (some b) w w'):=Any.Builder_WriteByte_k Tryd.laysB167 Tryd.laysB_Extra B b bs c w h hlen hBw
theorem Tryd.Builder_WriteString_k (B b : Nat) (bs : List Value) (s : ByteArray) (w : World) (h : Lib.IsBuilderF 76 5 B b bs w) (hlen : bs.length + s.size ≤ 140737488355328) (hBw : B ≤ w.heap.size) :
    Calls Tryd.prog 33 #[.pointer (some ⟨b,0,none⟩),.string s] w fun e w' => e = .returned (.tuple #[.int .i64 s.size,.nilIface]) ∧ (Lib.BuilderAtF 76 5 B b (.pointer (some ⟨b,0,none⟩)) (bs ++ Lib.strCells s) w' ∧ Below B w w' ∧ Lib.OthersKept 5 (some b) w w'):=Any.Builder_WriteString_k Tryd.laysB166 Tryd.laysB_Extra B b bs s w h hlen hBw
end Go.Proofs

