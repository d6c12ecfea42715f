import Derived.Shelf.Pu.Lays
import Derived.Shelf.Pu.Lower
import Derived.Lib.Strings
import Derived.Lib.Walk
import Derived.Lib.ConvBytes
import Derived.Lib.ParseIntBMem
import Derived.Lib.Hide
import Derived.Laws.Strings3
import Derived.Laws.Closers25
import Derived.Laws.Closers25b
import Derived.WalkKit
import Derived.BigCall
import Derived.BigGuard
import Derived.Shelf.Pu.ParseUintEmpty
import Derived.Shelf.Pu.ToError
import Derived.Shelf.Pu.ToErrorRange
import Derived.Lib.AtoiErrMem
import Derived.LaidLaws
import Derived.Test.YtdmngdohlobogaaGreatDoorYAsc3
import Derived.Test.YtdmngdohlobogaaGreatDoorYGV
import Derived.Lib.Bytealg
set_option linter.unusedSimpArgs false
section
namespace Go.Proofs
open Go.Shelf Go.RowKit
variable {P : Program} {ρ : Ren}
def synEnd : Lib.NumEnd Nat:=Lib.parseUintB 31 []
set_option maxHeartbeats 32000000 in
set_option maxRecDepth 100000 in
theorem AnyP31.internal_ParseUint_10_b31 (L : LaysPu.n16 P ρ) (t : ByteArray) (hne : t.size ≠ 0) (hmax : t.size ≤ 9223372036854775806) (w : World) :
  Calls P (ρ.f 16) #[.string t,.int .i64 10,.int .i64 31] w fun e w' => e = .returned (Lib.uintTupleM (ρ.t 34) 2147483647 (Lib.parseUintM 2147483647 0 t.data.toList)) ∧ w' = Lib.bytesWorld w (ρ.t 5) t:=by
 have mixed:=L.mixed
 have t9:=L.t9;have a9:=L.a9;have z9:=L.z9;have v9:=L.v9
 have t3:=L.t3;have a3:=L.a3;have z3:=L.z3;have v3:=L.v3
 have t22:=L.t22;have a22:=L.a22;have z22:=L.z22;have v22:=L.v22
 have t24:=L.t24;have a24:=L.a24;have z24:=L.z24;have v24:=L.v24
 have t4:=L.t4;have a4:=L.a4;have z4:=L.z4;have v4:=L.v4
 have t34:=L.t34;have a34:=L.a34;have z34:=L.z34;have v34:=L.v34
 have t5:=L.t5;have a5:=L.a5;have z5:=L.z5;have v5:=L.v5
 have t36:=L.t36;have a36:=L.a36;have z36:=L.z36;have v36:=L.v36
 have t37:=L.t37;have a37:=L.a37;have z37:=L.z37;have v37:=L.v37
 have t0:=L.t0;have a0:=L.a0;have z0:=L.z0;have v0:=L.v0
 have e19 : ∀ args w,(callFunc (ρ.f 19) args).run P w = .ok (.enter (ρ.f 19) args) w:=enters_of L.f19 (by kernel_rfl) rfl
 have hemp : t.toList.isEmpty = false:=by
  rw [← decide_eq_emptyBytes]
  exact decide_eq_false (fun h => hne (by rw [h];rfl))
 have hcv:=Lib.run_convert_string_bytes (P:=P) w (ρ.t 9) (ρ.t 37) (ρ.t 5) t (u:=.string) L.t9 L.t37 L.t5
 have hB : ∀ j,j < t.size → (Lib.bytesWorld w (ρ.t 5) t).cell? ⟨w.heap.size,j,none⟩ = some (.int .u8 (t.data.toList.getD j 0).toNat):=fun j hj => Lib.bytesWorld_cell w (ρ.t 5) t j hj
 obtain ⟨W1,hW1⟩ : ∃ W1,W1 = Lib.bytesWorld w (ρ.t 5) t:=⟨_,rfl⟩
 rw [← hW1] at hcv hB ⊢
 clear hW1
 obtain ⟨bs,hL⟩ : ∃ bs,bs = t.data.toList:=⟨_,rfl⟩
 have hLn : bs.length = t.size:=by rw [hL,Lib.size_eq]
 rw [← hL] at hB ⊢
 clear hL
 have hmv : IntKind.u64.wrap (IntKind.u64.wrap 2147483648 - 1) = 2147483647:=by
  rw [IntKind.wrap_u64,IntKind.wrap_u64]
  decide
 go_enter L.f16,BodyPu.n16_ntmps ρ
 go_wp2
 go_loop [12,13,101] (fun vu vn vi => ∃ (k acc : Nat) (a : Int),vu = .bool false ∧ vn = .int .u64 a ∧ vi = .int .i64 k ∧ k ≤ t.size ∧ Hid (a = (acc : Int) ∧ acc ≤ 2147483647 ∧ Lib.parseUintM 2147483647 0 bs = Lib.parseUintM 2147483647 acc (bs.drop k)))
  (fun _ _ vi => t.size - (intOf vi).toNat)
 case atStart => exact ⟨0,0,0,rfl,rfl,rfl,by omega,rfl,by omega,rfl⟩
 case round =>
  obtain ⟨k,acc,a,rfl,rfl,rfl,hk,hh⟩:=hrel
  obtain ⟨ha,hacc,hdec⟩:=hh.out
  clear hh
  have a0 : 0 ≤ a:=by omega
  have a1 : a ≤ 2147483647:=by omega
  by_cases hkn : k < t.size
  ·have hc:=hB k hkn
   have hdrop : bs.drop k = bs[k]'(by omega) :: bs.drop (k + 1):=List.drop_eq_getElem_cons (by omega)
   have hget : bs.getD k 0 = bs[k]'(by omega):=by simp [List.getD,List.getElem?_eq_getElem (show k < bs.length by omega)]
   rw [hdrop] at hdec
   rw [hget] at hc
   generalize bs[k]'(by omega) = c at hc hdec
   have hc256 : c.toNat < 256:=c.toNat_lt
   clear hB hdrop hget
   by_cases hdig : 48 ≤ c.toNat ∧ c.toNat ≤ 57
   ·obtain ⟨hd0,hd1⟩:=hdig
    have hcut : ¬ 1844674407370955162 ≤ acc:=by omega
    by_cases hov : 2147483647 < acc * 10 + (c.toNat - 48)
    ·
     have hF : Lib.parseUintM 2147483647 acc (c :: bs.drop (k + 1)) = .range:=by simp [Lib.parseUintM,hd0,hd1,hcut,hov]
     rw [hF] at hdec
     have iov : 2147483647 < a * 10 + ((c.toNat : Int) - 48):=by omega
     clear hcut hacc hF hov ha
     go_wp2
     go_ret2
     exact ⟨rfl,rfl⟩
    ·have hF : Lib.parseUintM 2147483647 acc (c :: bs.drop (k + 1)) = Lib.parseUintM 2147483647 (acc * 10 + (c.toNat - 48)) (bs.drop (k + 1)):=by simp [Lib.parseUintM,hd0,hd1,hcut,hov]
     have HN : Hid (a * 10 + ((c.toNat : Int) - 48) = ((acc * 10 + (c.toNat - 48) : Nat) : Int) ∧ acc * 10 + (c.toNat - 48) ≤ 2147483647 ∧ Lib.parseUintM 2147483647 0 bs = Lib.parseUintM 2147483647 (acc * 10 + (c.toNat - 48)) (bs.drop (k + 1))):=Lib.hid ⟨by omega,by omega,hdec.trans hF⟩
     have iov : a * 10 + ((c.toNat : Int) - 48) ≤ 2147483647:=by omega
     clear hcut hacc hF hov hdec ha
     go_wp2
     refine ⟨⟨k + 1,acc * 10 + (c.toNat - 48),a * 10 + ((c.toNat : Int) - 48),rfl,(by first|rfl|(congr 1;omega)),(by first|rfl|(congr 1;omega)),by omega,HN⟩,by simp [intOf];omega⟩
   ·
    have hF : Lib.parseUintM 2147483647 acc (c :: bs.drop (k + 1)) = synEnd:=by simp [Lib.parseUintM,hdig,synEnd,Lib.parseUintB]
    rw [hF] at hdec
    clear hacc hF ha
    have hv0:=bits_lo_u8 .or (c.toNat : Int) 32
    have hv1:=bits_hi_u8 .or (c.toNat : Int) 32
    have hu0:=bits_lo_u8 .or 95 32
    have hu1:=bits_hi_u8 .or 95 32
    go_wp2_with (go_at_fn (ρ.f 19);refine (AnyPu.internal_strconv_lower { L with } _ _).mono ?_;rintro e w' ⟨rfl,rfl⟩)
    all_goals go_ret2
    all_goals first|exact ⟨rfl,rfl⟩|exact ⟨by rw [hdec];rfl,rfl⟩
  ·
   have hkk : k = t.size:=by omega
   subst hkk
   have hF : Lib.parseUintM 2147483647 acc (bs.drop t.size) = .ok acc:=by rw [List.drop_eq_nil_of_le (by omega)];rfl
   rw [hF] at hdec
   subst ha
   clear hacc hF a0 a1
   go_wp2
   go_ret2
   exact ⟨rfl,rfl⟩
theorem AnyP31.internal_ParseUint_10_at31 (L : LaysPu.n16 P ρ) (t : ByteArray) (hmax : t.size ≤ 9223372036854775806) (w : World) :
  Calls P (ρ.f 16) #[.string t,.int .i64 10,.int .i64 31] w fun e w' => e = .returned (Lib.uintTupleM (ρ.t 34) 2147483647 (Lib.parseUintB 31 t.data.toList)) ∧ (w' = w ∨ w' = Lib.bytesWorld w (ρ.t 5) t):=by
 have eM : (2 : Nat) ^ 31 - 1 = 2147483647:=by decide
 by_cases h0 : t.size = 0
 ·have ht : t = ⟨#[]⟩:=by
   apply ByteArray.ext
   exact Array.eq_empty_of_size_eq_zero h0
  subst ht
  exact (AnyPu.internal_strconv_ParseUint_empty { L with } 10 31 w).mono fun e w' ⟨he,hw⟩ => ⟨he,Or.inl hw⟩
 ·have hne : t.data.toList ≠ []:=fun h => h0 (by rw [Lib.size_eq,h];rfl)
  refine (AnyP31.internal_ParseUint_10_b31 { L with } t h0 hmax w).mono fun e w' ⟨he,hw⟩ => ⟨?_,Or.inr hw⟩
  rw [he,Lib.parseUintB,if_neg hne,eM]
set_option maxHeartbeats 4000000 in
set_option maxRecDepth 100000 in
theorem AnyP31.ParseUint_10_at31_ok (L : LaysPu.n14 P ρ) (s : ByteArray) (hmax : s.size ≤ 9223372036854775806) (u : Nat) (h : Lib.parseUintB 31 s.data.toList = .ok u) (w : World) :
  Calls P (ρ.f 14) #[.string s,.int .i64 10,.int .i64 31] w fun e w' => e = .returned (.tuple #[.int .u64 u,.nilIface]) ∧ (w' = w ∨ w' = Lib.bytesWorld w (ρ.t 5) s):=by
 have mixed:=L.mixed
 have t9:=L.t9;have a9:=L.a9;have z9:=L.z9;have v9:=L.v9
 have t3:=L.t3;have a3:=L.a3;have z3:=L.z3;have v3:=L.v3
 have t22:=L.t22;have a22:=L.a22;have z22:=L.z22;have v22:=L.v22
 have t24:=L.t24;have a24:=L.a24;have z24:=L.z24;have v24:=L.v24
 have t25:=L.t25;have a25:=L.a25;have z25:=L.z25;have v25:=L.v25
 have t4:=L.t4;have a4:=L.a4;have z4:=L.z4;have v4:=L.v4
 have e16 : ∀ args w,(callFunc (ρ.f 16) args).run P w = .ok (.enter (ρ.f 16) args) w:=enters_of L.f16 (by kernel_rfl) rfl
 have hI:=AnyP31.internal_ParseUint_10_at31 { L with } s hmax w
 rw [h] at hI
 have hI : Calls P (ρ.f 16) #[.string s,.int .i64 10,.int .i64 31] w fun e w' => e = .returned (.tuple #[.int .u64 u,.nilIface]) ∧ (w' = w ∨ w' = Lib.bytesWorld w (ρ.t 5) s):=hI
 clear h
 go_enter L.f14,BodyPu.n14_ntmps ρ
 go_wp2_with (go_at_fn (ρ.f 16);refine hI.mono ?_;rintro e W1 ⟨rfl,hW⟩)
 go_wp2
 go_ret2
 exact ⟨rfl,hW⟩
set_option maxHeartbeats 4000000 in
set_option maxRecDepth 100000 in
theorem AnyP31.ParseUint_10_at31_syntax (L : LaysPu.n14 P ρ) (s : ByteArray) (hlim : s.size ≤ 281474976710656) (h : Lib.parseUintB 31 s.data.toList = synEnd) (ev : Value) (w : World) (hv : w.cell? ⟨(ρ.g 0),0,none⟩ = some ev) (hev : ev = .nilIface ∨ ∃ te pe,ev = .iface te pe) :
  Calls P (ρ.f 14) #[.string s,.int .i64 10,.int .i64 31] w fun e w' => ∃ N,e = .returned (.tuple #[.int .u64 0,.iface (ρ.t 39) (.pointer (some ⟨N,0,none⟩))]) ∧ w.heap.size ≤ N ∧ w'.heap[N]? = some (.cells #[.string ⟨#[80,97,114,115,101,85,105,110,116]⟩,.string s,ev] (ρ.t 44) (0,0)) ∧ Below w.heap.size w w':=by
 have mixed:=L.mixed
 have t9:=L.t9;have a9:=L.a9;have z9:=L.z9;have v9:=L.v9
 have t3:=L.t3;have a3:=L.a3;have z3:=L.z3;have v3:=L.v3
 have t22:=L.t22;have a22:=L.a22;have z22:=L.z22;have v22:=L.v22
 have t24:=L.t24;have a24:=L.a24;have z24:=L.z24;have v24:=L.v24
 have t25:=L.t25;have a25:=L.a25;have z25:=L.z25;have v25:=L.v25
 have t4:=L.t4;have a4:=L.a4;have z4:=L.z4;have v4:=L.v4
 have e16 : ∀ args w,(callFunc (ρ.f 16) args).run P w = .ok (.enter (ρ.f 16) args) w:=enters_of L.f16 (by kernel_rfl) rfl
 have e17 : ∀ args w,(callFunc (ρ.f 17) args).run P w = .ok (.enter (ρ.f 17) args) w:=enters_of L.f17 (by kernel_rfl) rfl
 have hG : (ρ.g 0) < w.heap.size:=Lib.lt_of_cell hv
 have hI:=AnyP31.internal_ParseUint_10_at31 { L with } s (by omega) w
 rw [h] at hI
 have hI : Calls P (ρ.f 16) #[.string s,.int .i64 10,.int .i64 31] w fun e w' => e = .returned (.tuple #[.int .u64 0,.iface (ρ.t 34) (.int .i64 2)]) ∧ (w' = w ∨ w' = Lib.bytesWorld w (ρ.t 5) s):=hI
 clear h
 go_enter L.f14,BodyPu.n14_ntmps ρ
 go_wp2_with (go_at_fn (ρ.f 16);refine hI.mono ?_)
 rintro e W1 ⟨rfl,hW⟩
 have hb1 : Below w.heap.size w W1:=by
  rcases hW with rfl|rfl
  ·exact Below.refl _ _
  ·exact Lib.bytesWorld_below _ _ _
 have hv1 : W1.cell? ⟨(ρ.g 0),0,none⟩ = some ev:=(hb1.cell (show (⟨(ρ.g 0),0,none⟩ : Addr).block < w.heap.size from hG)).trans hv
 clear hW
 go_wp2_with (go_at_fn (ρ.f 17);refine (AnyPu.strconv_toError_syntax { L with } ⟨#[80,97,114,115,101,85,105,110,116]⟩ s 10 31 ev _ hlim ?_ hev).mono ?_)
 ·exact hv1
 rintro e W2 ⟨N,rfl,h1,h2,h3⟩
 go_wp2
 go_ret2
 exact ⟨N,rfl,Nat.le_trans hb1.size h1,h2,hb1.trans (h3.mono hb1.size)⟩
set_option maxHeartbeats 4000000 in
set_option maxRecDepth 100000 in
theorem AnyP31.ParseUint_10_at31_range (L : LaysPu.n14 P ρ) (s : ByteArray) (hlim : s.size ≤ 281474976710656) (h : Lib.parseUintB 31 s.data.toList = .range) (ev : Value) (w : World) (hv : w.cell? ⟨(ρ.g 1),0,none⟩ = some ev) (hev : ev = .nilIface ∨ ∃ te pe,ev = .iface te pe) :
  Calls P (ρ.f 14) #[.string s,.int .i64 10,.int .i64 31] w fun e w' => ∃ N,e = .returned (.tuple #[.int .u64 2147483647,.iface (ρ.t 39) (.pointer (some ⟨N,0,none⟩))]) ∧ w.heap.size ≤ N ∧ w'.heap[N]? = some (.cells #[.string ⟨#[80,97,114,115,101,85,105,110,116]⟩,.string s,ev] (ρ.t 44) (0,0)) ∧ Below w.heap.size w w':=by
 have mixed:=L.mixed
 have t9:=L.t9;have a9:=L.a9;have z9:=L.z9;have v9:=L.v9
 have t3:=L.t3;have a3:=L.a3;have z3:=L.z3;have v3:=L.v3
 have t22:=L.t22;have a22:=L.a22;have z22:=L.z22;have v22:=L.v22
 have t24:=L.t24;have a24:=L.a24;have z24:=L.z24;have v24:=L.v24
 have t25:=L.t25;have a25:=L.a25;have z25:=L.z25;have v25:=L.v25
 have t4:=L.t4;have a4:=L.a4;have z4:=L.z4;have v4:=L.v4
 have e16 : ∀ args w,(callFunc (ρ.f 16) args).run P w = .ok (.enter (ρ.f 16) args) w:=enters_of L.f16 (by kernel_rfl) rfl
 have e17 : ∀ args w,(callFunc (ρ.f 17) args).run P w = .ok (.enter (ρ.f 17) args) w:=enters_of L.f17 (by kernel_rfl) rfl
 have hG : (ρ.g 1) < w.heap.size:=Lib.lt_of_cell hv
 have hI:=AnyP31.internal_ParseUint_10_at31 { L with } s (by omega) w
 rw [h] at hI
 have hI : Calls P (ρ.f 16) #[.string s,.int .i64 10,.int .i64 31] w fun e w' => e = .returned (.tuple #[.int .u64 2147483647,.iface (ρ.t 34) (.int .i64 1)]) ∧ (w' = w ∨ w' = Lib.bytesWorld w (ρ.t 5) s):=hI
 clear h
 go_enter L.f14,BodyPu.n14_ntmps ρ
 go_wp2_with (go_at_fn (ρ.f 16);refine hI.mono ?_)
 rintro e W1 ⟨rfl,hW⟩
 have hb1 : Below w.heap.size w W1:=by
  rcases hW with rfl|rfl
  ·exact Below.refl _ _
  ·exact Lib.bytesWorld_below _ _ _
 have hv1 : W1.cell? ⟨(ρ.g 1),0,none⟩ = some ev:=(hb1.cell (show (⟨(ρ.g 1),0,none⟩ : Addr).block < w.heap.size from hG)).trans hv
 clear hW
 go_wp2_with (go_at_fn (ρ.f 17);refine (AnyPu.strconv_toError_range { L with } ⟨#[80,97,114,115,101,85,105,110,116]⟩ s 10 31 ev _ hlim ?_ hev).mono ?_)
 ·exact hv1
 rintro e W2 ⟨N,rfl,h1,h2,h3⟩
 go_wp2
 go_ret2
 exact ⟨N,rfl,Nat.le_trans hb1.size h1,h2,hb1.trans (h3.mono hb1.size)⟩
theorem AnyP31.ParseUint_10_at31_syntax_var (L : LaysPu.n14 P ρ) (s : ByteArray) (hlim : s.size ≤ 281474976710656) (h : Lib.parseUintB 31 s.data.toList = synEnd) (tp : TypeId) (p : Value) (w : World) (hvar : w.var? P "strconv.ErrSyntax" = some #[.iface tp p]) :
  Calls P (ρ.f 14) #[.string s,.int .i64 10,.int .i64 31] w fun e w' => ∃ N,e = .returned (.tuple #[.int .u64 0,.iface (ρ.t 39) (.pointer (some ⟨N,0,none⟩))]) ∧ w.heap.size ≤ N ∧ w'.heap[N]? = some (.cells #[.string ⟨#[80,97,114,115,101,85,105,110,116]⟩,.string s,.iface tp p] (ρ.t 44) (0,0)) ∧ Below w.heap.size w w' :=
 AnyP31.ParseUint_10_at31_syntax L s hlim h (.iface tp p) w (by have h0:=World.var?_cell L.m0 hvar 0;simpa using h0) (Or.inr ⟨tp,p,rfl⟩)
theorem AnyP31.ParseUint_10_at31_range_var (L : LaysPu.n14 P ρ) (s : ByteArray) (hlim : s.size ≤ 281474976710656) (h : Lib.parseUintB 31 s.data.toList = .range) (tp : TypeId) (p : Value) (w : World) (hvar : w.var? P "strconv.ErrRange" = some #[.iface tp p]) :
  Calls P (ρ.f 14) #[.string s,.int .i64 10,.int .i64 31] w fun e w' => ∃ N,e = .returned (.tuple #[.int .u64 2147483647,.iface (ρ.t 39) (.pointer (some ⟨N,0,none⟩))]) ∧ w.heap.size ≤ N ∧ w'.heap[N]? = some (.cells #[.string ⟨#[80,97,114,115,101,85,105,110,116]⟩,.string s,.iface tp p] (ρ.t 44) (0,0)) ∧ Below w.heap.size w w' :=
 AnyP31.ParseUint_10_at31_range L s hlim h (.iface tp p) w (by have h0:=World.var?_cell L.m1 hvar 0;simpa using h0) (Or.inr ⟨tp,p,rfl⟩)
end Go.Proofs
end
section
namespace Go.Proofs.YtdmngdohlobogaaGreatDoor.Asc
open Go Go.RowKit Go.Proofs.YtdmngdohlobogaaGreatDoorW.PrintWords Go.Proofs.YtdmngdohlobogaaGreatDoorW.PrintLast Go.Proofs.YtdmngdohlobogaaGreatDoorW.PrintMore
set_option linter.unusedVariables false
def numA (s : ByteArray) : Int × Bool :=
 match Lib.parseUintB 31 s.data.toList with
 |.ok u => if bt s 0 = 43 ∨ (1 < s.size ∧ bt s 0 = 48) then (0,false) else ((u : Int),true)
 |_ => (0,false)
set_option maxHeartbeats 1000000 in
theorem number_calls (a0 : ByteArray) (w : World) (hG : GV w) (hs : a0.size ≤ 281474976710656) :
  Calls Tryz.prog 79 #[.string a0] w fun e w' => e = .returned (.tuple #[.int .i64 (numA a0).1,.bool (numA a0).2]) ∧ Below w.heap.size w w':=by
 unfold numA
 cases hp : Lib.parseUintB 31 a0.data.toList with
 |ok u =>
  dsimp only
  have hu:=Lib.parseUintB_le hp
  have hne : 0 < a0.size:=by
   rcases Nat.eq_zero_or_pos a0.size with h0|h0
   ·have h1 : a0.data.toList = []:=List.eq_nil_of_length_eq_zero (by rw [data_length];exact h0)
    rw [h1] at hp
    cases hp
   ·exact h0
  have hc : Calls Tryz.prog 107 #[.string a0,.int .i64 10,.int .i64 31] w fun e w' => e = .returned (.tuple #[.int .u64 u,.nilIface]) ∧ Below w.heap.size w w' :=
   (AnyP31.ParseUint_10_at31_ok Tryz.laysPu14 a0 (by omega) u hp w).mono fun e w' ⟨he,hw⟩ => ⟨he,by rcases hw with rfl|rfl;exact Below.refl _ _;exact Lib.bytesWorld_below _ _ _⟩
  have HC:=Lib.hid hc
  have HU : (u : Int) ≤ 2147483647:=by omega
  obtain ⟨R,hR⟩ : ∃ R,(if bt a0 0 = 43 ∨ (1 < a0.size ∧ bt a0 0 = 48) then ((0 : Int),false) else ((u : Int),true)) = R:=⟨_,rfl⟩
  rw [hR]
  have hbt : bt a0 0 = ((a0[0]'hne).toNat : Int):=by simp [bt,hne]
  rw [hbt] at hR
  have HR:=Lib.hid hR
  clear hc hp hG hu hR hbt
  go_enter Tryz.func79,Tryz.ntmps79
  go_wp2_with fail
  refine HC.out.mono ?_
  rintro e w1 ⟨rfl,hb⟩
  have HB:=Lib.hid hb
  clear hb
  generalize hx : ((a0[0]'hne).toNat : Int) = x at HR
  by_cases c1 : x = 43
  ·have c1b : (((a0[0]'hne).toNat : Int) == 43) = true:=by rw [hx,c1];rfl
   have hr:=HR.out
   rw [if_pos (.inl c1)] at hr
   subst hr
   clear HR c1 hx
   go_wp2_with fail
   all_goals (try (go_ret2;exact ⟨rfl,HB.out⟩))
  ·have c1b : (((a0[0]'hne).toNat : Int) == 43) = false:=by rw [hx];exact beq_eq_false_iff_ne.mpr c1
   by_cases c2 : 1 < a0.size
   ·have c2b : decide ((1 : Int) < (a0.size : Int)) = true:=decide_eq_true (by omega)
    by_cases c3 : x = 48
    ·have c3b : (((a0[0]'hne).toNat : Int) == 48) = true:=by rw [hx,c3];rfl
     have hr:=HR.out
     rw [if_pos (.inr ⟨c2,c3⟩)] at hr
     subst hr
     clear HR c1 c3 hx
     go_wp2_with fail
     all_goals (try (go_ret2;exact ⟨rfl,HB.out⟩))
    ·have c3b : (((a0[0]'hne).toNat : Int) == 48) = false:=by rw [hx];exact beq_eq_false_iff_ne.mpr c3
     have hr:=HR.out
     rw [if_neg (fun h => h.elim c1 (fun h => c3 h.2))] at hr
     subst hr
     have hw : IntKind.i64.wrap (u : Int) = (u : Int):=by rw [IntKind.wrap_i64];omega
     clear HR c1 c3 hx
     go_wp2_with fail
     all_goals (try (go_ret2;exact ⟨rfl,HB.out⟩))
   ·have c2b : decide ((1 : Int) < (a0.size : Int)) = false:=decide_eq_false (by omega)
    have c2n : (a0.size : Int) ≤ 1:=by omega
    have hr:=HR.out
    rw [if_neg (fun h => h.elim c1 (fun h => c2 h.1))] at hr
    subst hr
    have hw : IntKind.i64.wrap (u : Int) = (u : Int):=by rw [IntKind.wrap_i64];omega
    clear HR c1 hx
    go_wp2_with fail
    all_goals (try (go_ret2;exact ⟨rfl,HB.out⟩))
 |range =>
  dsimp only
  obtain ⟨tp,p,hv⟩:=hG.rng
  have hc : Calls Tryz.prog 107 #[.string a0,.int .i64 10,.int .i64 31] w fun e w' => ∃ N,e = .returned (.tuple #[.int .u64 2147483647,.iface 174 (.pointer (some ⟨N,0,none⟩))]) ∧ Below w.heap.size w w' :=
   (AnyP31.ParseUint_10_at31_range_var Tryz.laysPu14 a0 hs hp tp p w hv).mono fun e w' ⟨N,he,_,_,hw⟩ => ⟨N,he,hw⟩
  have HC:=Lib.hid hc
  clear hc hp hv hG
  go_enter Tryz.func79,Tryz.ntmps79
  go_wp2_with fail
  refine HC.out.mono ?_
  rintro e w1 ⟨N,rfl,hb⟩
  have HB:=Lib.hid hb
  clear hb
  go_wp2_with fail
  go_ret2
  exact ⟨rfl,HB.out⟩
 |_ =>
  dsimp only
  obtain ⟨tp,p,hv⟩:=hG.syn
  have hc : Calls Tryz.prog 107 #[.string a0,.int .i64 10,.int .i64 31] w fun e w' => ∃ N,e = .returned (.tuple #[.int .u64 0,.iface 174 (.pointer (some ⟨N,0,none⟩))]) ∧ Below w.heap.size w w' :=
   (AnyP31.ParseUint_10_at31_syntax_var Tryz.laysPu14 a0 hs hp tp p w hv).mono fun e w' ⟨N,he,_,_,hw⟩ => ⟨N,he,hw⟩
  have HC:=Lib.hid hc
  clear hc hp hv hG
  go_enter Tryz.func79,Tryz.ntmps79
  go_wp2_with fail
  refine HC.out.mono ?_
  rintro e w1 ⟨N,rfl,hb⟩
  have HB:=Lib.hid hb
  clear hb
  go_wp2_with fail
  go_ret2
  exact ⟨rfl,HB.out⟩
end Go.Proofs.YtdmngdohlobogaaGreatDoor.Asc
end
section
namespace Go.Proofs.YtdmngdohlobogaaGreatDoor.Stim
open Go
def frags : List UInt8 → List (List UInt8)
 |[] => [[]]
 |c :: l => if c = 32 then [] :: frags l else match frags l with
  |f :: fs => (c :: f) :: fs
  |[] => [[c]]
theorem frags_none : ∀ (l : List UInt8),Lib.indexByte l 32 < 0 → frags l = [l]
 |[],_ => rfl
 |c :: l,h => by
  have hg:=Lib.indexByte_ge l 32
  unfold Lib.indexByte at h
  by_cases hc : c = 32
  ·subst hc
   simp at h
  ·have hc' : (c == 32) = false:=by simpa using hc
   rw [hc'] at h
   by_cases hm : Lib.indexByte l 32 = -1
   ·have ih:=frags_none l (by omega)
    simp only [frags,if_neg hc,ih]
   ·have hm' : (Lib.indexByte l 32 == -1) = false:=by simpa using hm
    rw [hm'] at h
    simp at h
    omega
theorem frags_some : ∀ (l : List UInt8) (i : Nat),Lib.indexByte l 32 = i → frags l = l.take i :: frags (l.drop (i + 1))
 |[],i,h => by
  unfold Lib.indexByte at h
  omega
 |c :: l,i,h => by
  unfold Lib.indexByte at h
  by_cases hc : c = 32
  ·subst hc
   simp at h
   obtain rfl : i = 0:=by omega
   simp [frags]
  ·have hc' : (c == 32) = false:=by simpa using hc
   rw [hc'] at h
   by_cases hm : Lib.indexByte l 32 = -1
   ·rw [hm] at h
    simp at h
   ·have hm' : (Lib.indexByte l 32 == -1) = false:=by simpa using hm
    rw [hm'] at h
    simp at h
    have hg:=Lib.indexByte_ge l 32
    obtain ⟨k,rfl⟩ : ∃ k,i = k + 1:=⟨i - 1,by omega⟩
    have ih:=frags_some l k (by omega)
    simp only [frags,if_neg hc,ih,List.take_succ_cons,List.drop_succ_cons]
theorem indexByte_lt : ∀ (l : List UInt8) (c : UInt8),Lib.indexByte l c < l.length ∨ Lib.indexByte l c = -1
 |[],c => by simp [Lib.indexByte]
 |b :: l,c => by
  have ih:=indexByte_lt l c
  unfold Lib.indexByte
  split
  ·left;simp only [List.length_cons];omega
  ·split
   ·right;rfl
   ·rename_i h1 h2
    simp at h2
    rcases ih with ih|ih
    ·left;simp only [List.length_cons];omega
    ·exact absurd ih h2
def bytesA (l : List UInt8) : ByteArray:=⟨l.toArray⟩
def fragsB (s : ByteArray) : List ByteArray:=(frags s.data.toList).map bytesA
theorem bytesA_data (s : ByteArray) : bytesA s.data.toList = s:=by
 unfold bytesA
 cases s
 simp
theorem extract_list (s : ByteArray) (a b : Nat) : (s.extract a b).data.toList = (s.data.toList.drop a).take (b - a):=by
 have:=Lib.extract_toList s a b
 rwa [Lib.toList_data] at this
theorem fragsB_none (s : ByteArray) (h : Lib.indexByte s.data.toList 32 < 0) : fragsB s = [s]:=by
 unfold fragsB
 rw [frags_none _ h]
 simp [bytesA_data]
theorem size_list (s : ByteArray) : s.data.toList.length = s.size:=by
 cases s
 rfl
theorem fragsB_some (s : ByteArray) (i : Nat) (h : Lib.indexByte s.data.toList 32 = i) : fragsB s = s.extract 0 i :: fragsB (s.extract (i + 1) s.size):=by
 have e1 : bytesA (s.data.toList.take i) = s.extract 0 i:=by
  rw [← bytesA_data (s.extract 0 i),extract_list,List.drop_zero,Nat.sub_zero]
 have e2 : (s.extract (i + 1) s.size).data.toList = s.data.toList.drop (i + 1):=by
  rw [extract_list,List.take_of_length_le]
  rw [List.length_drop,size_list]
  omega
 unfold fragsB
 rw [frags_some _ i h,e2,List.map_cons,e1]
end Go.Proofs.YtdmngdohlobogaaGreatDoor.Stim
end
section
namespace Go.Proofs.YtdmngdohlobogaaGreatDoor.Asc
open Go Go.RowKit Go.Proofs.YtdmngdohlobogaaGreatDoorW.PrintWords
open Go.Proofs.YtdmngdohlobogaaGreatDoor.Stim (fragsB)
set_option linter.unusedVariables false
def numsA : List ByteArray → Option (List Int)
 |[] => some []
 |x :: l => if (numA x).2 = true then (numsA l).map ((numA x).1 :: ·) else none
theorem numsA_snoc (l : List ByteArray) (x : ByteArray) : numsA (l ++ [x]) = (numsA l).bind fun ns => if (numA x).2 = true then some (ns ++ [(numA x).1]) else none:=by
 induction l with
 |nil => cases h : (numA x).2 <;> simp [numsA,h]
 |cons y l ih =>
  simp only [List.cons_append,numsA,ih]
  cases (numA y).2 <;> cases numsA l <;> cases (numA x).2 <;> simp
theorem numsA_len : ∀ (l : List ByteArray) (ns : List Int),numsA l = some ns → ns.length = l.length
 |[],ns,h => by
  simp [numsA] at h
  subst h
  rfl
 |x :: l,ns,h => by
  simp only [numsA] at h
  split at h
  ·obtain ⟨qs,hq,rfl⟩:=Option.map_eq_some_iff.1 h
   simp [numsA_len l qs hq]
  ·cases h
theorem numsA_prefix {l m : List ByteArray} (h : numsA l = none) (hp : l <+: m) : numsA m = none:=by
 obtain ⟨k,rfl⟩:=hp
 induction l with
 |nil => simp [numsA] at h
 |cons x l ih =>
  simp only [List.cons_append,numsA] at h ⊢
  split at h
  ·rename_i hx
   rw [if_pos hx,ih (by simpa using h)]
   rfl
  ·rename_i hx
   rw [if_neg hx]
def numbersF (l : ByteArray) : Option (List Int):=numsA (fragsB l)
def lineF (s : ByteArray) (p : Nat) : Option (ByteArray × Nat) :=
 if Lib.indexByte (s.extract p s.size).data.toList 10 < 0 then none
 else some (s.extract p (p + (Lib.indexByte (s.extract p s.size).data.toList 10).toNat),p + (Lib.indexByte (s.extract p s.size).data.toList 10).toNat + 1)
def rowF (s : ByteArray) (p least most : Nat) : Option (List Int × Nat) :=
 (lineF s p).bind fun q => (numbersF q.1).bind fun ns => if ns.length < least ∨ most < ns.length then none else some (ns,q.2)
def listF (s : ByteArray) : Nat → Nat → Except Nat (List Int × Nat)
 |0,p => .ok ([],p)
 |n + 1,p => match rowF s p 1 1 with
  |none => .error p
  |some (x,q) => match listF s n q with
   |.error e => .error e
   |.ok (l,r) => .ok (x.getD 0 0 :: l,r)
def andOf (x : List Int) : S125:=⟨x.getD 0 0,x.getD 1 0,x.getD 2 0⟩
def andsF (s : ByteArray) : Nat → Nat → Except Nat (List S125 × Nat)
 |0,p => .ok ([],p)
 |n + 1,p => match rowF s p 3 3 with
  |none => .error p
  |some (x,q) => match andsF s n q with
   |.error e => .error e
   |.ok (l,r) => .ok (andOf x :: l,r)
def sizesF' (s : ByteArray) : Nat → Nat → Except Nat (List Int × Nat)
 |0,p => .ok ([],p)
 |n + 1,p => match rowF s p 1 1 with
  |none => .error p
  |some (x,q) => if 16384 < x.getD 0 0 then .error p else match sizesF' s n q with
   |.error e => .error e
   |.ok (l,r) => .ok (x.getD 0 0 :: l,r)
def justF (s : ByteArray) : List Int → Nat → Except Nat (List (List Int) × Nat)
 |[],p => .ok ([],p)
 |k :: ks,p => match listF s k.toNat p with
  |.error e => .error e
  |.ok (x,q) => match justF s ks q with
   |.error e => .error e
   |.ok (l,r) => .ok (x :: l,r)
end Go.Proofs.YtdmngdohlobogaaGreatDoor.Asc
end
