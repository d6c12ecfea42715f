import Derived.Test.YtdmngdohlobogaaGreatDoorXM6
section
namespace Go.Proofs.YtdmngdohlobogaaGreatDoor.Asc
open Go Go.RowKit Go.Proofs.YtdmngdohlobogaaGreatDoorW.PrintWords Go.Proofs.YtdmngdohlobogaaGreatDoorW.PrintLast Go.Proofs.YtdmngdohlobogaaGreatDoorW.PrintMore
set_option linter.unusedVariables false
set_option linter.unusedSimpArgs false
theorem row_some {W : World} {base : Nat} {ok : Nat → Prop} {v : Value} {xs : List Int} (h : Kd.R (Kd.int .i64) 3 W base ok v xs) (h0 : 0 < xs.length) : ∃ g cp,v = .slice (some ⟨g,0,none⟩) xs.length cp ∧ base ≤ g ∧ ∀ i,i < xs.length → W.cell? ⟨g,i,none⟩ = some (.int .i64 (xs.getD i 0)):=by
 have ho:=Kd.own_of_R h
 have hh:=ho
 rcases hh.2 with ⟨_,h1⟩|⟨g,cap,cur,rfl,hg,_,_⟩
 ·omega
 ·refine ⟨g,cap,rfl,hg,fun i hi => ?_⟩
  have:=(own_at (k:=.i64) (xs:=xs) ho (i : Int) (by omega) (by omega)).1
  rw [Int.toNat_natCast] at this
  rw [this]
  simp [rd]
theorem row_no' {w0 w : World} {R p least most : Nat} (li mi : Int) (hli : li = least) (hmi : mi = most) {s : ByteArray} (hG : GV w0) (hB : Below w0.heap.size w0 w) (hR0 : w0.heap.size ≤ R) (hR : RD w R s p) (hp : p ≤ s.size) (hs : s.size ≤ 262144) (hm : least ≤ 9 ∧ most ≤ 9) (h : rowF s p least most = none) :
  Calls Tryz.prog 76 #[.pointer (some ⟨R,0,none⟩),.int .i64 li,.int .i64 mi] w fun e w' => e = .panicked [{ v:=.iface 32 (faultV p 42),recovered:=false }] ∧ KR w w' R:=by
 subst hli
 subst hmi
 exact row_no hG hB hR0 hR hp hs hm h
theorem row_yes' {w0 w : World} {R p q least most : Nat} (li mi : Int) (hli : li = least) (hmi : mi = most) {s : ByteArray} {ns : List Int} (hG : GV w0) (hB : Below w0.heap.size w0 w) (hR0 : w0.heap.size ≤ R) (hR : RD w R s p) (hp : p ≤ s.size) (hs : s.size ≤ 262144) (hm : least ≤ 9 ∧ most ≤ 9) (h : rowF s p least most = some (ns,q)) :
  Calls Tryz.prog 76 #[.pointer (some ⟨R,0,none⟩),.int .i64 li,.int .i64 mi] w fun e w' => ∃ v,e = .returned v ∧ Kd.R (Kd.int .i64) 3 w' w.heap.size (fun _ => True) v ns ∧ RD w' R s q ∧ KR w w' R:=by
 subst hli
 subst hmi
 exact row_yes hG hB hR0 hR hp hs hm h
def appOk {α : Type} (acc : List α) : Except Nat (List α × Nat) → Except Nat (List α × Nat)
 |.error e => .error e
 |.ok (l,q) => .ok (acc ++ l,q)
theorem appOk_nil {α : Type} (r : Except Nat (List α × Nat)) : appOk [] r = r:=by
 cases r with
 |error e => rfl
 |ok x => rfl
theorem appOk_app {α : Type} (a b : List α) (r : Except Nat (List α × Nat)) : appOk a (appOk b r) = appOk (a ++ b) r:=by
 cases r with
 |error e => rfl
 |ok x => simp [appOk]
theorem rowF_len {s : ByteArray} {p q a b : Nat} {x : List Int} (h : rowF s p a b = some (x,q)) : a ≤ x.length ∧ x.length ≤ b:=by
 unfold rowF at h
 obtain ⟨y,hy,h⟩:=Option.bind_eq_some_iff.1 h
 obtain ⟨z,hz,h⟩:=Option.bind_eq_some_iff.1 h
 split at h
 ·cases h
 ·injection h with h
  injection h with h1 h2
  subst h1
  omega
theorem rowF_place {s : ByteArray} {p q a b : Nat} {x : List Int} (hp : p ≤ s.size) (h : rowF s p a b = some (x,q)) : p < q ∧ q ≤ s.size:=by
 unfold rowF at h
 obtain ⟨y,hy,h⟩:=Option.bind_eq_some_iff.1 h
 obtain ⟨z,hz,h⟩:=Option.bind_eq_some_iff.1 h
 split at h
 ·cases h
 ·injection h with h
  injection h with h1 h2
  subst h2
  have:=lineF_size (l:=y.1) (q:=y.2) hp hy
  omega
theorem listF_step {s : ByteArray} {p q m : Nat} {x : List Int} (h : rowF s p 1 1 = some (x,q)) : listF s (m + 1) p = appOk [x.getD 0 0] (listF s m q):=by
 rw [listF,h]
 dsimp only
 cases listF s m q with
 |error e => rfl
 |ok y => rfl
def ListEnd (w : World) (R : Nat) (s : ByteArray) (r : Except Nat (List Int × Nat)) (e : Ending) (w' : World) : Prop:=match r with
 |.error x => e = thrown x ∧ KR w w' R
 |.ok (l,q) => ∃ v,e = .returned v ∧ Kd.R (Kd.int .i64) 3 w' w.heap.size (fun _ => True) v l ∧ RD w' R s q ∧ KR w w' R
theorem KR.row {w W : World} {R base : Nat} {ok : Nat → Prop} {v : Value} {xs : List Int} (h : KR w W R) (hr : Kd.R (Kd.int .i64) 3 w base (fun k => ok k ∧ k ≠ R) v xs) : Kd.R (Kd.int .i64) 3 W base (fun k => ok k ∧ k ≠ R) v xs :=
 Kd.R_step hr (fun k hk hlt => h.kb.2 k hlt hk.2)
theorem row_far {w : World} {R base : Nat} {v : Value} {xs : List Int} (hR : R < base) (hr : Kd.R (Kd.int .i64) 3 w base (fun _ => True) v xs) : Kd.R (Kd.int .i64) 3 w base (fun k => True ∧ k ≠ R) v xs :=
 Kd.R_mono (Kd.R_bound hr) (fun k hk => ⟨trivial,by have:=hk.2.1;omega⟩)
theorem KR.grown {w W V : World} {R : Nat} {row : Option Nat} (h : KR w W R) (hg : W.grownBy V row) (hr : ∀ k,row = some k → w.heap.size ≤ k) (hR : R ≤ w.heap.size) : KR w V R :=
 ⟨⟨Nat.le_trans h.kb.1 hg.size,fun k hk hne => (hg.block k (Nat.lt_of_lt_of_le hk h.kb.1) (fun e => by have:=hr k e.symm;omega)).trans (h.kb.2 k hk hne)⟩,h.be.grown hg (Nat.le_trans hR h.kb.1) (fun k e => Nat.le_trans hR (hr k e))⟩
theorem RD.grown {w W : World} {R p : Nat} {s : ByteArray} {row : Option Nat} (h : RD w R s p) (hg : w.grownBy W row) (hne : some R ≠ row) : RD W R s p:=blk_grown h hg hne
theorem info3a : (Tryz.prog.info? 3).map (fun i => (i.zero,i.size,i.bytes)) = some (some (.int .i64 0),1,8):=by kernel_rfl
set_option maxHeartbeats 4000000 in
set_option maxRecDepth 100000 in
theorem list_calls {w0 w : World} {R p n : Nat} {s : ByteArray} (hG : GV w0) (hB : Below w0.heap.size w0 w) (hR0 : w0.heap.size ≤ R) (hR : RD w R s p) (hp : p ≤ s.size) (hs : s.size ≤ 262144) (hn : n ≤ 16384) :
  Calls Tryz.prog 75 #[.pointer (some ⟨R,0,none⟩),.int .i64 (n : Int)] w (ListEnd w R s (listF s n p)):=by
 obtain ⟨res,hres⟩ : ∃ res,listF s n p = res:=⟨_,rfl⟩
 rw [hres]
 have HRES:=A0_.mk hres
 have HG:=A0_.mk hG
 have HB:=A0_.mk hB
 have HR0:=A0_.mk hR0
 have HRD:=A0_.mk hR
 have HP:=A0_.mk hp
 have HS:=A0_.mk hs
 have HN:=A0_.mk hn
 have HRL:=A0_.mk hR.lt
 clear hres hG hB hR0 hR hp hs hn
 go_enter Tryz.func75,Tryz.ntmps75
 go_wp2
 (try simp only [Act.put,sA_,sB_,sC_])
 go_loopg [5,7] (n + 1) (fun kq v5 v7 w' => ∃ (k : Nat) (acc : List Int) (pk : Nat),v7 = .int .i64 k ∧ A0_ (k + kq = n + 1) ∧ A0_ (k ≤ n) ∧ A0_ (acc.length = k) ∧ A0_ (pk ≤ s.size) ∧ A0_ (appOk acc (listF s (n - k) pk) = res) ∧ A0_ (Kd.R (Kd.int .i64) 3 w' w.heap.size (fun _ => True) v5 acc) ∧ A0_ (RD w' R s pk) ∧ A0_ (KR w w' R))
 case atStart => exact ⟨0,[],p,rfl,⟨by omega⟩,⟨by omega⟩,⟨rfl⟩,HP,⟨by rw [appOk_nil];exact HRES.out⟩,⟨Kd.R_nil _ _ _ _ _⟩,HRD,⟨KR.refl _ _⟩⟩
 case round =>
  clear HRES HRD HP
  obtain ⟨k,acc,pk,rfl,HK,HKN,HAL,HP,HRES,HAR,HRD,HKR⟩:=hrel
  obtain ⟨A5,n5,rfl⟩:=Kd.R_slice HAR.out
  by_cases ck : k < n
  ·obtain ⟨g1,rfl⟩ : ∃ g1,gk = g1 + 1:=by
    cases gk with
    |zero => have:=HK.out;omega
    |succ g1 => exact ⟨g1,rfl⟩
   have ckb : decide ((k : Int) < (n : Int)) = true:=decide_eq_true (by omega)
   have hw1 : IntKind.i64.wrap ((k : Int) + 1) = ((k + 1 : Nat) : Int):=by have:=HN.out;rw [IntKind.wrap_i64];omega
   have hB2 : Below w0.heap.size w0 wr:=HKR.out.base HB.out HR0.out
   cases hrow : rowF s pk 1 1 with
   |none =>
    have HC:=row_no' (least:=1) (most:=1) 1 1 rfl rfl HG.out hB2 HR0.out HRD.out HP.out HS.out (by omega) hrow
    have HC:=A0_.mk HC
    have hr:=HRES.out
    have e1 : n - k = (n - k - 1) + 1:=by omega
    rw [e1,listF,hrow] at hr
    subst hr
    clear hB2 hrow HRES e1
    go_wp2_with (go_at_call 76;refine HC.out.mono ?_;rintro e w1 ⟨rfl,hb⟩)
    exact ⟨rfl,rfl,HKR.out.trans hb⟩
   |some xq =>
    obtain ⟨x,q⟩:=xq
    have HC:=A0_.mk (row_yes' (least:=1) (most:=1) 1 1 rfl rfl HG.out hB2 HR0.out HRD.out HP.out HS.out (by omega) hrow)
    have hxl:=rowF_len hrow
    have hr:=HRES.out
    have e1 : n - k = (n - (k + 1)) + 1:=by omega
    rw [e1,listF_step hrow,appOk_app] at hr
    have HRES2:=A0_.mk hr
    have HPL:=A0_.mk (rowF_place HP.out hrow)
    have hx1 : x.length = 1:=by omega
    obtain ⟨x0,rfl⟩ : ∃ x0,x = [x0]:=List.length_eq_one_iff.1 hx1
    have e2 : ([x0] : List Int).getD 0 0 = x0:=rfl
    rw [e2] at HRES2
    have HFAR:=A0_.mk (row_far HRL.out HAR.out)
    clear hB2 hrow HRES e1 hr hxl hx1 HAR e2
    go_wp2_with (first|(go_at_call 76;refine HC.out.mono ?_;rintro e w1 ⟨v,rfl,hrr,hrd,hkr⟩;obtain ⟨g,cp,rfl,hgb,hcc⟩:=row_some hrr (Nat.lt_succ_self 0);have y0 : w1.cell? ⟨g,0,none⟩ = some (.int .i64 x0):=hcc 0 (Nat.lt_succ_self 0);have HRD1:=A0_.mk hrd;have HK1:=A0_.mk (HKR.out.trans hkr);have HAR1:=A0_.mk (hkr.row HFAR.out);clear hrr hgb hcc hrd hkr)|(at_builtin;refine Kd.R_append (Kd.int .i64) (w0:=w1) w.heap.size rfl (.tmp 9) (.tmp 14) 22 3 (.int .i64 0) 8 rfl Tryz.underlying22 info3a rfl (by decide) (by decide) _ acc x0 [.int .i64 x0] (fun k => True ∧ k ≠ R) (fun _ => False) rfl rfl rfl (fun _ h => h.elim) (fun k hk => ⟨trivial,by have:=HRL.out;have:=HK1.out.kb.1;omega⟩) HAR1.out (Below.refl _ _) HK1.out.kb.1 (by have:=HAL.out;have:=HN.out;omega) ?_;intro v3 w3 hr3 hb3 hg3 hat3;have HR3:=A0_.mk hr3;have HK3:=A0_.mk (HK1.out.grown hg3 (fun k e => Kd.R_base HAR1.out k e) (Nat.le_of_lt HRL.out));have HRD3:=A0_.mk (HRD1.out.grown hg3 (fun e => by have:=Kd.R_base HAR1.out R e.symm;have:=HRL.out;omega));clear hr3 hb3 hg3 hat3))
    go_roundg g1
    case measure => omega
    case rel => exact ⟨k + 1,acc ++ [x0],q,rfl,⟨by have:=HK.out;omega⟩,⟨by omega⟩,⟨by rw [List.length_append,HAL.out];rfl⟩,⟨HPL.out.2⟩,HRES2,⟨Kd.R_mono HR3.out (fun _ _ => trivial)⟩,HRD3,HK3⟩
  ·have ckb : decide ((k : Int) < (n : Int)) = false:=decide_eq_false (by omega)
   have hr:=HRES.out
   have e1 : n - k = 0:=by omega
   rw [e1,listF] at hr
   have e2 : appOk acc (.ok (([] : List Int),pk)) = .ok (acc,pk):=by simp [appOk]
   rw [e2] at hr
   subst hr
   clear HRES e1 e2
   go_wp2
   go_ret
   exact ⟨_,rfl,HAR.out,HRD.out,HKR.out⟩
end Go.Proofs.YtdmngdohlobogaaGreatDoor.Asc
end
section
namespace Go.Proofs.YtdmngdohlobogaaGreatDoor.Asc
open Go Go.RowKit Go.Proofs.YtdmngdohlobogaaGreatDoorW.PrintWords Go.Proofs.YtdmngdohlobogaaGreatDoorW.PrintLast Go.Proofs.YtdmngdohlobogaaGreatDoorW.PrintMore
set_option linter.unusedVariables false
set_option linter.unusedSimpArgs false
def kindsS : ByteArray:=⟨#[105,108,111,98,99,106,102]⟩
def cutS (l : ByteArray) (c : UInt8) : ByteArray × ByteArray × Bool:=(⟨(Lib.cut l.data.toList [c]).1.toArray⟩,⟨(Lib.cut l.data.toList [c]).2.1.toArray⟩,(Lib.cut l.data.toList [c]).2.2)
def symOf (c : ByteArray × ByteArray × Bool) : S59 × Bool :=
 if c.2.2 = false then (⟨0,0,ByteArray.empty⟩,false)
 else if c.2.1.size = 0 then (⟨0,0,ByteArray.empty⟩,false)
 else if c.1.size < 2 then (⟨0,0,ByteArray.empty⟩,false)
 else if Lib.contains kindsS.data.toList (c.1.extract 0 1).data.toList = false then (⟨0,0,ByteArray.empty⟩,false)
 else (⟨bt c.1 0,(numA (c.1.extract 1 c.1.size)).1,c.2.1⟩,(numA (c.1.extract 1 c.1.size)).2)
def symF (l : ByteArray) : S59 × Bool:=symOf (cutS l 32)
theorem cut_calls (l : ByteArray) (c : UInt8) (w : World) (hG : GV w) (hl : l.size ≤ 1048576) :
  Calls Tryz.prog 51 #[.string l,.string ⟨#[c]⟩] w fun e w' => e = .returned (.tuple #[.string (cutS l c).1,.string (cutS l c).2.1,.bool (cutS l c).2.2]) ∧ Below w.heap.size w w' :=
 Stim.strings_Cut.calls l ⟨#[c]⟩ _ _ _ w hG (by unfold Stim.strings_Cut.f;rw [if_pos (by omega)];rfl)
theorem cut_size (l : ByteArray) (c : UInt8) : (cutS l c).1.size ≤ l.size ∧ (cutS l c).2.1.size ≤ l.size:=by
 unfold cutS Lib.cut
 split
 ·refine ⟨?_,?_⟩
  ·show (l.data.toList.take _).toArray.size ≤ _
   rw [List.size_toArray,List.length_take,data_length]
   omega
  ·show (l.data.toList.drop _).toArray.size ≤ _
   rw [List.size_toArray,List.length_drop,data_length]
   omega
 ·refine ⟨?_,?_⟩
  ·show l.data.toList.toArray.size ≤ _
   rw [List.size_toArray,data_length]
   omega
  ·show ([] : List UInt8).toArray.size ≤ _
   simp
theorem has_calls (sub : ByteArray) (w : World) (hG : GV w) : Calls Tryz.prog 83 #[.string kindsS,.string sub] w fun e w' => e = .returned (.bool (Lib.contains kindsS.data.toList sub.data.toList)) ∧ w' = w:=by
 obtain ⟨m,hm⟩:=hG.max
 have hc : w.cell? ⟨0,0,none⟩ = some (.int .i64 m):=by
  have:=World.var?_cell (P:=Tryz.prog) (g:=0) (by kernel_rfl) hm 0
  simpa using this
 exact Tryz.strings_Contains kindsS sub m w (by decide) hc
def SymEnd (w : World) (x : S59 × Bool) (e : Ending) (w' : World) : Prop:=e = .returned (.tuple #[.agg #[.int .u8 x.1.f0,.int .i64 x.1.f1,.string x.1.f2],.bool x.2]) ∧ Below w.heap.size w w'
theorem blk3 {w : World} {g t : Nat} {x y z : Value} (h : w.heap[g]? = some (.cells #[x,y,z] t (0,0))) (a b c : Value) : (((w.setCell ⟨g,0,none⟩ a).setCell ⟨g,1,none⟩ b).setCell ⟨g,2,none⟩ c).heap[g]? = some (.cells #[a,b,c] t (0,0)):=by
 have:=blk_set (blk_set (blk_set h 0 a) 1 b) 2 c
 simpa using this
theorem below3 {w W : World} {g : Nat} {B : Nat} (h : Below B w W) (hg : B ≤ g) (a b c : Value) : Below B w (((W.setCell ⟨g,0,none⟩ a).setCell ⟨g,1,none⟩ b).setCell ⟨g,2,none⟩ c) :=
 ((h.setCell (p:=⟨g,0,none⟩) hg _).setCell (p:=⟨g,1,none⟩) hg _).setCell (p:=⟨g,2,none⟩) hg _
theorem info59s : (Tryz.prog.info? 77).map (·.size) = some 3:=by kernel_rfl
set_option maxHeartbeats 2000000 in
set_option maxRecDepth 100000 in
theorem sym_calls (l : ByteArray) (w : World) (hG : GV w) (hl : l.size ≤ 1048576) : Calls Tryz.prog 57 #[.string l] w (SymEnd w (symF l)):=by
 have hsz:=cut_size l 32
 unfold symF
 obtain ⟨first,name,ok,hc⟩ : ∃ f n o,cutS l 32 = (f,n,o):=⟨_,_,_,rfl⟩
 have HC:=cut_calls l 32
 rw [hc] at hsz HC ⊢
 dsimp only at hsz HC
 have HC:=Lib.hid HC
 have HG:=Lib.hid hG
 have HL:=Lib.hid hl
 have hfs : first.size ≤ 1048576:=by omega
 have HFS:=Lib.hid hfs
 obtain ⟨res,hres⟩ : ∃ res,symOf (first,name,ok) = res:=⟨_,rfl⟩
 rw [hres]
 unfold symOf at hres
 dsimp only at hres
 have hB : Below w.heap.size w (w.alloc (.cells #[.int .u8 0,.int .i64 0,.string ⟨#[]⟩] 77)):=eA_ (Below.refl _ _) _
 have HB:=Lib.hid hB
 clear hc hG hl hsz hfs hB
 cases ok with
 |false =>
  rw [if_pos rfl] at hres
  subst hres
  go_enter Tryz.func57,Tryz.ntmps57
  go_wp2_with (first|(go_at_call 51;refine (HC.out _ (GV_below HG.out HB.out) HL.out).mono ?_;rintro e w1 ⟨rfl,hb⟩;have hblk : w1.heap[w.heap.size]? = some (.cells #[.int .u8 0,.int .i64 0,.string ⟨#[]⟩] 77 (0,0)):=(hb.block _ (by simp)).trans (blk_new w _);have y0:=bC_ hblk 0;have y1:=bC_ hblk 1;have y2:=bC_ hblk 2;have z0:=bF_ hblk 0;have z1:=bF_ hblk 1;have z2:=bF_ hblk 2;have HBK:=Lib.hid hblk;have HB1:=Lib.hid (HB.out.trans (hb.mono HB.out.size));clear hb hblk))
  show bodyPost _ _ _ _ _ _
  refine bodyPost_ret (results_ct rfl _ _ _ 77 _ _ _ rfl (blk3 HBK.out _ _ _) Tryz.underlying77 rfl info59s) rfl ?_
  exact ⟨rfl,below3 HB1.out (Nat.le_refl _) _ _ _⟩
 |true =>
  rw [if_neg (by decide)] at hres
  by_cases cn : name.size = 0
  ·rw [if_pos cn] at hres
   have hne : name.toList = []:=by
    rw [Lib.toList_data]
    exact List.eq_nil_of_length_eq_zero (by rw [data_length];exact cn)
   have hnb : name.toList.isEmpty = true:=by rw [hne];rfl
   subst hres
   clear cn
   go_enter Tryz.func57,Tryz.ntmps57
   go_wp2_with (first|(go_at_call 51;refine (HC.out _ (GV_below HG.out HB.out) HL.out).mono ?_;rintro e w1 ⟨rfl,hb⟩;have hblk : w1.heap[w.heap.size]? = some (.cells #[.int .u8 0,.int .i64 0,.string ⟨#[]⟩] 77 (0,0)):=(hb.block _ (by simp)).trans (blk_new w _);have y0:=bC_ hblk 0;have y1:=bC_ hblk 1;have y2:=bC_ hblk 2;have z0:=bF_ hblk 0;have z1:=bF_ hblk 1;have z2:=bF_ hblk 2;have HBK:=Lib.hid hblk;have HB1:=Lib.hid (HB.out.trans (hb.mono HB.out.size));clear hb hblk))
   show bodyPost _ _ _ _ _ _
   refine bodyPost_ret (results_ct rfl _ _ _ 77 _ _ _ rfl (blk3 HBK.out _ _ _) Tryz.underlying77 rfl info59s) rfl ?_
   exact ⟨rfl,below3 HB1.out (Nat.le_refl _) _ _ _⟩
  ·rw [if_neg cn] at hres
   have hne : ¬ name.toList = []:=by
    rw [Lib.toList_data]
    intro h
    exact cn (by rw [← data_length,h];rfl)
   have hnb : name.toList.isEmpty = false:=by
    cases h : name.toList with
    |nil => exact absurd h hne
    |cons a b => rfl
   clear cn
   by_cases cf : first.size < 2
   ·rw [if_pos cf] at hres
    have cfb : decide ((first.size : Int) < 2) = true:=decide_eq_true (by omega)
    subst hres
    clear cf hne
    go_enter Tryz.func57,Tryz.ntmps57
    go_wp2_with (first|(go_at_call 51;refine (HC.out _ (GV_below HG.out HB.out) HL.out).mono ?_;rintro e w1 ⟨rfl,hb⟩;have hblk : w1.heap[w.heap.size]? = some (.cells #[.int .u8 0,.int .i64 0,.string ⟨#[]⟩] 77 (0,0)):=(hb.block _ (by simp)).trans (blk_new w _);have y0:=bC_ hblk 0;have y1:=bC_ hblk 1;have y2:=bC_ hblk 2;have z0:=bF_ hblk 0;have z1:=bF_ hblk 1;have z2:=bF_ hblk 2;have HBK:=Lib.hid hblk;have HB1:=Lib.hid (HB.out.trans (hb.mono HB.out.size));clear hb hblk))
    show bodyPost _ _ _ _ _ _
    refine bodyPost_ret (results_ct rfl _ _ _ 77 _ _ _ rfl (blk3 HBK.out _ _ _) Tryz.underlying77 rfl info59s) rfl ?_
    exact ⟨rfl,below3 HB1.out (Nat.le_refl _) _ _ _⟩
   ·rw [if_neg cf] at hres
    have cfb : decide ((first.size : Int) < 2) = false:=decide_eq_false (by omega)
    have h1s : (1 : Int) ≤ (first.size : Int):=by omega
    have h0s : 0 < first.size:=by omega
    obtain ⟨ct,hct⟩ : ∃ ct,Lib.contains kindsS.data.toList (first.extract 0 1).data.toList = ct:=⟨_,rfl⟩
    rw [hct] at hres
    have HCT:=Lib.hid hct
    clear hct
    cases ct with
    |false =>
     rw [if_pos rfl] at hres
     subst hres
     clear cf hne
     go_enter Tryz.func57,Tryz.ntmps57
     go_wp2_with (first|(go_at_call 51;refine (HC.out _ (GV_below HG.out HB.out) HL.out).mono ?_;rintro e w1 ⟨rfl,hb⟩;have hblk : w1.heap[w.heap.size]? = some (.cells #[.int .u8 0,.int .i64 0,.string ⟨#[]⟩] 77 (0,0)):=(hb.block _ (by simp)).trans (blk_new w _);have y0:=bC_ hblk 0;have y1:=bC_ hblk 1;have y2:=bC_ hblk 2;have z0:=bF_ hblk 0;have z1:=bF_ hblk 1;have z2:=bF_ hblk 2;have HBK:=Lib.hid hblk;have HB1:=Lib.hid (HB.out.trans (hb.mono HB.out.size));clear hb hblk)|(go_at_call 83;refine (has_calls _ _ (GV_below HG.out HB1.out)).mono ?_;rintro e w2 ⟨rfl,rfl⟩;rw [HCT.out]))
     show bodyPost _ _ _ _ _ _
     refine bodyPost_ret (results_ct rfl _ _ _ 77 _ _ _ rfl (blk3 HBK.out _ _ _) Tryz.underlying77 rfl info59s) rfl ?_
     exact ⟨rfl,below3 HB1.out (Nat.le_refl _) _ _ _⟩
    |true =>
     rw [if_neg (by decide)] at hres
     have hbt : bt first 0 = ((first[0]'h0s).toNat : Int):=by simp [bt,h0s]
     rw [hbt] at hres
     subst hres
     obtain ⟨nn,hnn⟩ : ∃ nn,numA (first.extract 1 first.size) = nn:=⟨_,rfl⟩
     rw [hnn]
     have HNN:=Lib.hid hnn
     clear cf hne hnn hbt
     go_enter Tryz.func57,Tryz.ntmps57
     go_wp2_with (first|(go_at_call 51;refine (HC.out _ (GV_below HG.out HB.out) HL.out).mono ?_;rintro e w1 ⟨rfl,hb⟩;have hblk : w1.heap[w.heap.size]? = some (.cells #[.int .u8 0,.int .i64 0,.string ⟨#[]⟩] 77 (0,0)):=(hb.block _ (by simp)).trans (blk_new w _);have y0:=bC_ hblk 0;have y1:=bC_ hblk 1;have y2:=bC_ hblk 2;have z0:=bF_ hblk 0;have z1:=bF_ hblk 1;have z2:=bF_ hblk 2;have HBK:=Lib.hid hblk;have HB1:=Lib.hid (HB.out.trans (hb.mono HB.out.size));clear hb hblk)|(go_at_call 83;refine (has_calls _ _ (GV_below HG.out HB1.out)).mono ?_;rintro e w2 ⟨rfl,rfl⟩;rw [HCT.out])|(go_at_call 79;refine (number_calls _ _ (GV_below HG.out HB1.out) (by have:=HFS.out;simp;omega)).mono ?_;rintro e w3 ⟨rfl,hb⟩;rw [HNN.out];have hblk : w3.heap[w.heap.size]? = some (.cells #[.int .u8 0,.int .i64 0,.string ⟨#[]⟩] 77 (0,0)):=(hb.block _ (blk_lt HBK.out)).trans HBK.out;have y0:=bC_ hblk 0;have y1:=bC_ hblk 1;have y2:=bC_ hblk 2;have z0:=bF_ hblk 0;have z1:=bF_ hblk 1;have z2:=bF_ hblk 2;have HBK3:=Lib.hid hblk;have HB3:=Lib.hid (HB1.out.trans (hb.mono HB1.out.size));clear hb hblk))
     show bodyPost _ _ _ _ _ _
     refine bodyPost_ret (results_ct rfl _ _ _ 77 _ _ _ rfl (blk3 HBK3.out _ _ _) Tryz.underlying77 rfl info59s) rfl ?_
     exact ⟨rfl,below3 HB3.out (Nat.le_refl _) _ _ _⟩
end Go.Proofs.YtdmngdohlobogaaGreatDoor.Asc
end
