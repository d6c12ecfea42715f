import Derived.Test.YtdmngdohlobogaaGreatDoorYBRow
import Derived.Test.YtdmngdohlobogaaGreatDoorYABodyM
section
namespace Go.Proofs.YtdmngdohlobogaaGreatDoor.Asc
open Go Go.RowKit Go.Proofs.YtdmngdohlobogaaGreatDoorW.PrintWords Go.Proofs.YtdmngdohlobogaaGreatDoorW.PrintLast Go.Proofs.YtdmngdohlobogaaGreatDoorW.PrintMore
set_option linter.unusedVariables false
set_option linter.unusedSimpArgs false
theorem numsB_len {l : ByteArray} {most : Nat} : ∀ (f k : Nat) (out ns : List Int),numsB l most f k out = some ns → out.length ≤ most → ns.length ≤ most
 |0,k,out,ns,h,ho => by cases h
 |f + 1,k,out,ns,h,ho => by
  unfold numsB at h
  split at h
  ·cases h
  ·rename_i n e hnw
   split at h
   ·cases h
   ·split at h
    ·cases h
    ·rename_i hom
     split at h
     ·injection h with h
      subst h
      rw [List.length_append]
      simp
      omega
     ·exact numsB_len f (e + 1) (out ++ [n]) ns h (by rw [List.length_append];simp;omega)
theorem rowB_len {s : ByteArray} {p q a b : Nat} {x : List Int} (h : rowB s p a b = some (x,q)) : a ≤ x.length ∧ x.length ≤ b:=by
 unfold rowB at h
 obtain ⟨y,hy,h⟩:=Option.bind_eq_some_iff.1 h
 obtain ⟨z,hz,h⟩:=Option.bind_eq_some_iff.1 h
 split at h
 ·cases h
 ·injection h with h
  injection h with h1 h2
  subst h1
  have:=numsB_len _ _ _ _ hz (Nat.zero_le _)
  omega
theorem rowB_place {s : ByteArray} {p q a b : Nat} {x : List Int} (hp : p ≤ s.size) (h : rowB s p a b = some (x,q)) : p < q ∧ q ≤ s.size:=by
 unfold rowB at h
 obtain ⟨y,hy,h⟩:=Option.bind_eq_some_iff.1 h
 obtain ⟨z,hz,h⟩:=Option.bind_eq_some_iff.1 h
 split at h
 ·cases h
 ·injection h with h
  injection h with h1 h2
  subst h2
  have:=lineF_size (l:=y.1) (q:=y.2) hp hy
  omega
theorem listB_step {s : ByteArray} {p q m : Nat} {x : List Int} (h : rowB s p 1 1 = some (x,q)) : listB s (m + 1) p = appOk [x.getD 0 0] (listB s m q):=by
 rw [listB,h]
 dsimp only
 cases listB s m q with
 |error e => rfl
 |ok y => rfl
def ListEndB (w : World) (R : Nat) (s : ByteArray) (r : Except Nat (List Int × Nat)) (e : Ending) (w' : World) : Prop:=match r with
 |.error x => ∃ v l q,e = .returned v ∧ Kd.R (Kd.int .i64) 3 w' w.heap.size (fun _ => True) v l ∧ SD w' R s q (x : Int) ∧ KR w w' R
 |.ok (l,q) => ∃ v,e = .returned v ∧ Kd.R (Kd.int .i64) 3 w' w.heap.size (fun _ => True) v l ∧ SD w' R s q (-1) ∧ KR w w' R
theorem listB_off {w : World} {R p n : Nat} {b : Int} {s : ByteArray} (hR : SD w R s p b) (hb : 0 ≤ b) :
  Calls Tryz.prog 20 #[.pointer (some ⟨R,0,none⟩),.int .i64 (n : Int)] w fun e w' => e = .returned (.slice none 0 0) ∧ w' = w:=by
 have c2 : w.cell? ⟨R,2,none⟩ = some (.int .i64 b):=bC_ hR 2
 have d2 : decide (b < 0) = false:=decide_eq_false (by omega)
 clear hR hb
 go_enter Tryz.func20,Tryz.ntmps20
 go_wp2
 go_loopg [5,6] 1 (fun kq v5 v6 w' => v5 = .slice none 0 0 ∧ v6 = .int .i64 0 ∧ w' = w)
 case atStart => exact ⟨rfl,rfl,rfl⟩
 case round =>
  obtain ⟨rfl,rfl,rfl⟩:=hrel
  by_cases hn : n = 0
  ·subst hn
   go_wp2
   go_ret
   exact ⟨rfl,rfl⟩
  ·have d1 : decide ((0 : Int) < (n : Int)) = true:=decide_eq_true (by omega)
   have d1' : decide (0 < n) = true:=decide_eq_true (by omega)
   clear hn
   go_wp2
   go_ret
   exact ⟨rfl,rfl⟩
set_option maxHeartbeats 4000000 in
set_option maxRecDepth 100000 in
theorem listB_calls {w0 w : World} {R p n : Nat} {s : ByteArray} (hG : GV w0) (hB : Below w0.heap.size w0 w) (hR0 : w0.heap.size ≤ R) (hR : SD w R s p (-1)) (hp : p ≤ s.size) (hs : s.size ≤ 262144) (hn : n ≤ 16384) :
  Calls Tryz.prog 20 #[.pointer (some ⟨R,0,none⟩),.int .i64 (n : Int)] w (ListEndB w R s (listB s n p)):=by
 obtain ⟨res,hres⟩ : ∃ res,listB s n p = res:=⟨_,rfl⟩
 rw [hres]
 have HRES:=A0_.mk hres
 have HG:=A0_.mk hG
 have HB:=A0_.mk hB
 have HR0:=A0_.mk hR0
 have HSD:=A0_.mk hR
 have HP:=A0_.mk hp
 have HS:=A0_.mk hs
 have HN:=A0_.mk hn
 have HRL:=A0_.mk hR.lt
 clear hres hG hB hR0 hR hp hs hn
 go_enter Tryz.func20,Tryz.ntmps20
 go_wp2
 (try simp only [Act.put,sA_,sB_,sC_])
 go_loopg [5,6] (n + 1) (fun kq v5 v6 w' => ∃ (k : Nat) (acc : List Int),v6 = .int .i64 k ∧ A0_ (k + kq = n + 1) ∧ A0_ (k ≤ n) ∧ A0_ (acc.length = k) ∧ A0_ (Kd.R (Kd.int .i64) 3 w' w.heap.size (fun _ => True) v5 acc) ∧ A0_ (KR w w' R) ∧ A0_ ((∃ pk,pk ≤ s.size ∧ appOk acc (listB s (n - k) pk) = res ∧ SD w' R s pk (-1)) ∨ (∃ pk x : Nat,res = .error x ∧ SD w' R s pk (x : Int))))
 case atStart => exact ⟨0,[],rfl,⟨by omega⟩,⟨by omega⟩,⟨rfl⟩,⟨Kd.R_nil _ _ _ _ _⟩,⟨KR.refl _ _⟩,⟨Or.inl ⟨p,HP.out,by rw [appOk_nil];exact HRES.out,HSD.out⟩⟩⟩
 case round =>
  clear HRES HSD HP
  obtain ⟨k,acc,rfl,HK,HKN,HAL,HAR,HKR,HST⟩:=hrel
  obtain ⟨A5,n5,rfl⟩:=Kd.R_slice HAR.out
  rcases HST.out with ⟨pk,hpk,hr,hsd⟩|⟨pk,x,hr,hsd⟩
  ·have HSDW:=A0_.mk hsd
   have c2 : wr.cell? ⟨R,2,none⟩ = some (.int .i64 (-1)):=bC_ hsd 2
   have HPK:=A0_.mk hpk
   clear HST hsd hpk
   by_cases ck : k < n
   ·obtain ⟨g1,rfl⟩ : ∃ g1,gk = g1 + 1:=by
     cases gk with
     |zero => have:=HK.out;omega
     |succ g1 => exact ⟨g1,rfl⟩
    have ckb : decide ((k : Int) < (n : Int)) = true:=decide_eq_true (by omega)
    have ckb' : decide (k < n) = true:=decide_eq_true ck
    have hw1 : IntKind.i64.wrap ((k : Int) + 1) = ((k + 1 : Nat) : Int):=by have:=HN.out;rw [IntKind.wrap_i64];omega
    have hB2 : Below w0.heap.size w0 wr:=HKR.out.base HB.out HR0.out
    have HC:=rowB_calls (least:=1) (most:=1) HG.out hB2 HR0.out HSDW.out HPK.out HS.out (by omega)
    have e1 : n - k = (n - (k + 1)) + 1:=by omega
    have HFAR:=A0_.mk (row_far HRL.out HAR.out)
    clear hB2 HAR
    cases hrow : rowB s pk 1 1 with
    |none =>
     rw [hrow] at HC
     have HC:=A0_.mk HC
     rw [e1,listB,hrow] at hr
     have HRES:=A0_.mk (show res = .error pk from hr.symm)
     clear hr e1 hrow
     go_wp2_with (first|(go_at_call 53;refine HC.out.mono ?_;rintro e w1 ⟨v,rfl,hrr,hrd,hkr⟩;obtain ⟨g,cp,rfl,hgb,hcc⟩:=row_some hrr (Nat.lt_succ_self 0);have y0 : w1.cell? ⟨g,0,none⟩ = some (.int .i64 (0 : Int)):=hcc 0 (Nat.lt_succ_self 0);have HRD1:=A0_.mk hrd;have HK1:=A0_.mk (HKR.out.trans hkr);have HAR1:=A0_.mk (hkr.row HFAR.out);clear hrr hgb hcc hrd hkr)|(at_builtin;refine Kd.R_append (Kd.int .i64) (w0:=w1) w.heap.size rfl (.tmp 19) (.tmp 24) 22 3 (.int .i64 0) 8 rfl Tryz.underlying22 info3a rfl (by decide) (by decide) _ acc (0 : Int) [.int .i64 (0 : Int)] (fun k => True ∧ k ≠ R) (fun _ => False) rfl rfl rfl (fun _ h => h.elim) (fun k hk => ⟨trivial,by have:=HRL.out;have:=HK1.out.kb.1;omega⟩) HAR1.out (Below.refl _ _) HK1.out.kb.1 (by have:=HAL.out;have:=HN.out;omega) ?_;intro v3 w3 hr3 hb3 hg3 hat3;have HR3:=A0_.mk hr3;have HK3:=A0_.mk (HK1.out.grown hg3 (fun k e => Kd.R_base HAR1.out k e) (Nat.le_of_lt HRL.out));have HRD3:=A0_.mk (HRD1.out.grown hg3 (fun e => by have:=Kd.R_base HAR1.out R e.symm;have:=HRL.out;omega));clear hr3 hb3 hg3 hat3))
     go_roundg g1
     case measure => omega
     case rel => exact ⟨k + 1,acc ++ [(0 : Int)],rfl,⟨by have:=HK.out;omega⟩,⟨by omega⟩,⟨by rw [List.length_append,HAL.out];rfl⟩,⟨Kd.R_mono HR3.out (fun _ _ => trivial)⟩,HK3,⟨Or.inr ⟨pk,pk,HRES.out,HRD3.out⟩⟩⟩
    |some xq =>
     obtain ⟨x,q⟩:=xq
     rw [hrow] at HC
     have HC:=A0_.mk HC
     have hxl:=rowB_len hrow
     rw [e1,listB_step hrow,appOk_app] at hr
     have HPL:=A0_.mk (rowB_place HPK.out hrow)
     have hx1 : x.length = 1:=by omega
     obtain ⟨x0,rfl⟩ : ∃ x0,x = [x0]:=List.length_eq_one_iff.1 hx1
     have e2 : ([x0] : List Int).getD 0 0 = x0:=rfl
     rw [e2] at hr
     have HRES2:=A0_.mk hr
     clear hr e1 hrow hxl hx1 e2
     go_wp2_with (first|(go_at_call 53;refine HC.out.mono ?_;rintro e w1 ⟨v,rfl,hrr,hrd,hkr⟩;obtain ⟨g,cp,rfl,hgb,hcc⟩:=row_some hrr (Nat.lt_succ_self 0);have y0 : w1.cell? ⟨g,0,none⟩ = some (.int .i64 x0):=hcc 0 (Nat.lt_succ_self 0);have HRD1:=A0_.mk hrd;have HK1:=A0_.mk (HKR.out.trans hkr);have HAR1:=A0_.mk (hkr.row HFAR.out);clear hrr hgb hcc hrd hkr)|(at_builtin;refine Kd.R_append (Kd.int .i64) (w0:=w1) w.heap.size rfl (.tmp 19) (.tmp 24) 22 3 (.int .i64 0) 8 rfl Tryz.underlying22 info3a rfl (by decide) (by decide) _ acc x0 [.int .i64 x0] (fun k => True ∧ k ≠ R) (fun _ => False) rfl rfl rfl (fun _ h => h.elim) (fun k hk => ⟨trivial,by have:=HRL.out;have:=HK1.out.kb.1;omega⟩) HAR1.out (Below.refl _ _) HK1.out.kb.1 (by have:=HAL.out;have:=HN.out;omega) ?_;intro v3 w3 hr3 hb3 hg3 hat3;have HR3:=A0_.mk hr3;have HK3:=A0_.mk (HK1.out.grown hg3 (fun k e => Kd.R_base HAR1.out k e) (Nat.le_of_lt HRL.out));have HRD3:=A0_.mk (HRD1.out.grown hg3 (fun e => by have:=Kd.R_base HAR1.out R e.symm;have:=HRL.out;omega));clear hr3 hb3 hg3 hat3))
     go_roundg g1
     case measure => omega
     case rel => exact ⟨k + 1,acc ++ [x0],rfl,⟨by have:=HK.out;omega⟩,⟨by omega⟩,⟨by rw [List.length_append,HAL.out];rfl⟩,⟨Kd.R_mono HR3.out (fun _ _ => trivial)⟩,HK3,⟨Or.inl ⟨q,HPL.out.2,HRES2.out,HRD3.out⟩⟩⟩
   ·have ckb : decide ((k : Int) < (n : Int)) = false:=decide_eq_false (by omega)
    have ckb' : decide (k < n) = false:=decide_eq_false ck
    have e1 : n - k = 0:=by omega
    rw [e1,listB] at hr
    have e2 : appOk acc (.ok (([] : List Int),pk)) = .ok (acc,pk):=by simp [appOk]
    rw [e2] at hr
    subst hr
    clear e1 e2
    go_wp2
    go_ret
    exact ⟨_,rfl,HAR.out,HSDW.out,HKR.out⟩
  ·have HSDW:=A0_.mk hsd
   have c2 : wr.cell? ⟨R,2,none⟩ = some (.int .i64 (x : Int)):=bC_ hsd 2
   have d2 : decide ((x : Int) < 0) = false:=decide_eq_false (by omega)
   clear HST hsd
   subst hr
   by_cases ck : k < n
   ·have ckb : decide ((k : Int) < (n : Int)) = true:=decide_eq_true (by omega)
    have ckb' : decide (k < n) = true:=decide_eq_true ck
    go_wp2
    go_ret
    exact ⟨_,_,_,rfl,HAR.out,HSDW.out,HKR.out⟩
   ·have ckb : decide ((k : Int) < (n : Int)) = false:=decide_eq_false (by omega)
    have ckb' : decide (k < n) = false:=decide_eq_false ck
    go_wp2
    go_ret
    exact ⟨_,_,_,rfl,HAR.out,HSDW.out,HKR.out⟩
end Go.Proofs.YtdmngdohlobogaaGreatDoor.Asc
end
section
namespace Go.Proofs.YtdmngdohlobogaaGreatDoor.Asc
open Go Go.RowKit Go.Proofs.YtdmngdohlobogaaGreatDoorW.PrintWords Go.Proofs.YtdmngdohlobogaaGreatDoorW.PrintLast Go.Proofs.YtdmngdohlobogaaGreatDoorW.PrintMore
set_option linter.unusedVariables false
set_option linter.unusedSimpArgs false
theorem latchesB_step {s : ByteArray} {a p q m : Nat} {x : List Int} (h : rowB s p 1 2 = some (x,q)) : latchesB s a (m + 1) p = appOk [latchB a x] (latchesB s (a + 1) m q):=by
 rw [latchesB,h]
 dsimp only
 cases latchesB s (a + 1) m q with
 |error e => rfl
 |ok y => rfl
theorem one_or_two {x : List Int} (h : 1 ≤ x.length ∧ x.length ≤ 2) : (∃ a,x = [a]) ∨ ∃ a b,x = [a,b]:=by
 match x,h with
 |[a],_ => exact .inl ⟨a,rfl⟩
 |[a,b],_ => exact .inr ⟨a,b,rfl⟩
def LatEndB (w : World) (R : Nat) (s : ByteArray) (r : Except Nat (List S108 × Nat)) (e : Ending) (w' : World) : Prop:=match r with
 |.error x => ∃ v l q,e = .returned v ∧ Kd.R k108 61 w' w.heap.size (fun _ => True) v l ∧ SD w' R s q (x : Int) ∧ KR w w' R
 |.ok (l,q) => ∃ v,e = .returned v ∧ Kd.R k108 61 w' w.heap.size (fun _ => True) v l ∧ SD w' R s q (-1) ∧ KR w w' R
theorem latrow_far {w : World} {R base : Nat} {v : Value} {xs : List S108} (hR : R < base) (hr : Kd.R k108 61 w base (fun _ => True) v xs) : Kd.R k108 61 w base (fun k => True ∧ k ≠ R) v xs :=
 Kd.R_mono (Kd.R_bound hr) (fun k hk => ⟨trivial,by have:=hk.2.1;omega⟩)
theorem KR.latrow {w W : World} {R base : Nat} {ok : Nat → Prop} {v : Value} {xs : List S108} (h : KR w W R) (hr : Kd.R k108 61 w base (fun k => ok k ∧ k ≠ R) v xs) : Kd.R k108 61 W base (fun k => ok k ∧ k ≠ R) v xs :=
 Kd.R_step hr (fun k hk hlt => h.kb.2 k hlt hk.2)
set_option maxHeartbeats 4000000 in
set_option maxRecDepth 100000 in
theorem latchesB_calls {w0 w : World} {R p a0 n : Nat} {s : ByteArray} (hG : GV w0) (hB : Below w0.heap.size w0 w) (hR0 : w0.heap.size ≤ R) (hR : SD w R s p (-1)) (hp : p ≤ s.size) (hs : s.size ≤ 262144) (hn : n ≤ 16384) (ha : a0 ≤ 16384) :
  Calls Tryz.prog 19 #[.pointer (some ⟨R,0,none⟩),.int .i64 (a0 : Int),.int .i64 (n : Int)] w (LatEndB w R s (latchesB s a0 n p)):=by
 obtain ⟨res,hres⟩ : ∃ res,latchesB s a0 n p = res:=⟨_,rfl⟩
 rw [hres]
 have HRES:=A0_.mk hres
 have HG:=A0_.mk hG
 have HB:=A0_.mk hB
 have HR0:=A0_.mk hR0
 have HSD:=A0_.mk hR
 have HP:=A0_.mk hp
 have HS:=A0_.mk hs
 have HN:=A0_.mk hn
 have HA0:=A0_.mk ha
 have HRL:=A0_.mk hR.lt
 clear hres hG hB hR0 hR hp hs hn ha
 go_enter Tryz.func19,Tryz.ntmps19
 go_wp2
 (try simp only [Act.put,sA_,sB_,sC_])
 go_loopg [7,8] (n + 1) (fun kq v7 v8 w' => ∃ (k : Nat) (acc : List S108),v8 = .int .i64 k ∧ A0_ (k + kq = n + 1) ∧ A0_ (k ≤ n) ∧ A0_ (acc.length = k) ∧ A0_ (Kd.R k108 61 w' w.heap.size (fun _ => True) v7 acc) ∧ A0_ (KR w w' R) ∧ A0_ ((∃ pk,pk ≤ s.size ∧ appOk acc (latchesB s (a0 + k) (n - k) pk) = res ∧ SD w' R s pk (-1)) ∨ (∃ pk x : Nat,res = .error x ∧ SD w' R s pk (x : Int))))
 case atStart => exact ⟨0,[],rfl,⟨by omega⟩,⟨by omega⟩,⟨rfl⟩,⟨Kd.R_nil _ _ _ _ _⟩,⟨KR.refl _ _⟩,⟨Or.inl ⟨p,HP.out,by rw [appOk_nil];exact HRES.out,HSD.out⟩⟩⟩
 case round =>
  clear HRES HSD HP
  obtain ⟨k,acc,rfl,HK,HKN,HAL,HAR,HKR,HST⟩:=hrel
  obtain ⟨A7,n7,rfl⟩:=Kd.R_slice HAR.out
  rcases HST.out with ⟨pk,hpk,hr,hsd⟩|⟨pk,x,hr,hsd⟩
  ·have HSDW:=A0_.mk hsd
   have c2 : wr.cell? ⟨R,2,none⟩ = some (.int .i64 (-1)):=bC_ hsd 2
   have HPK:=A0_.mk hpk
   clear HST hsd hpk
   by_cases ck : k < n
   ·obtain ⟨g1,rfl⟩ : ∃ g1,gk = g1 + 1:=by
     cases gk with
     |zero => have:=HK.out;omega
     |succ g1 => exact ⟨g1,rfl⟩
    have ckb : decide ((k : Int) < (n : Int)) = true:=decide_eq_true (by omega)
    have ckb' : decide (k < n) = true:=decide_eq_true ck
    have hw1 : IntKind.i64.wrap ((k : Int) + 1) = ((k + 1 : Nat) : Int):=by have:=HN.out;rw [IntKind.wrap_i64];omega
    have hB2 : Below w0.heap.size w0 wr:=HKR.out.base HB.out HR0.out
    have HC:=rowB_calls (least:=1) (most:=2) HG.out hB2 HR0.out HSDW.out HPK.out HS.out (by omega)
    have e1 : n - k = (n - (k + 1)) + 1:=by omega
    have HFAR:=A0_.mk (latrow_far HRL.out HAR.out)
    have hwa : IntKind.i64.wrap ((a0 : Int) + (k : Int)) = (a0 : Int) + (k : Int):=by have:=HN.out;have:=HA0.out;rw [IntKind.wrap_i64];omega
    have hwb : IntKind.i64.wrap ((a0 : Int) + (k : Int) + 1) = (a0 : Int) + (k : Int) + 1:=by have:=HN.out;have:=HA0.out;rw [IntKind.wrap_i64];omega
    have hwc : IntKind.i64.wrap (2 * ((a0 : Int) + (k : Int) + 1)) = 2 * ((a0 : Int) + (k : Int) + 1):=by have:=HN.out;have:=HA0.out;rw [IntKind.wrap_i64];omega
    clear hB2 HAR
    cases hrow : rowB s pk 1 2 with
    |none =>
     rw [hrow] at HC
     have HC:=A0_.mk HC
     rw [e1,latchesB,hrow] at hr
     have HRES:=A0_.mk (show res = .error pk from hr.symm)
     clear hr e1 hrow
     go_upto_region 7 with (go_at_call 53;refine HC.out.mono ?_;rintro e w1 ⟨v,rfl,hrr,hrd,hkr⟩;obtain ⟨g,cp,rfl,hgb,hcc⟩:=row_some hrr (Nat.zero_lt_succ _);have y0 : w1.cell? ⟨g,0,none⟩ = some (.int .i64 (0 : Int)):=hcc 0 (Nat.zero_lt_succ _);have y1 : w1.cell? ⟨g,1,none⟩ = some (.int .i64 (0 : Int)):=hcc 1 (Nat.succ_lt_succ (Nat.zero_lt_succ _));have HRD1:=A0_.mk hrd;have HK1:=A0_.mk (HKR.out.trans hkr);have HAR1:=A0_.mk (Kd.R_mono (Kd.R_bound (hkr.latrow HFAR.out)) (fun k hk => (⟨hk.1,hk.2.2.1⟩ : (True ∧ k ≠ R) ∧ k < w1.heap.size)));clear hrr hgb hcc hrd hkr)
     have HLE1:=A0_.mk (Nat.le_trans (Nat.le_of_lt HRL.out) HK1.out.kb.1)
     have HLE0:=A0_.mk HK1.out.kb.1
     have hbe : Below w1.heap.size w1 (w1.alloc (.cells #[.int .i64 (2 * ((a0 : Int) + (k : Int) + 1)),.int .i64 (0 : Int),.int .i64 0] 61)):=eA_ (Below.refl _ _) _
     have hl2:=blk_new w1 (.cells #[.int .i64 (2 * ((a0 : Int) + (k : Int) + 1)),.int .i64 (0 : Int),.int .i64 0] 61)
     have y1b:=(hbe.cell (World.block_lt_of_cell? w1 _ y1)).trans y1
     clear y1
     have HAR2:=A0_.mk (Kd.R_below HAR1.out hbe)
     have HRD2:=A0_.mk (HRD1.out.below hbe)
     have HK2:=A0_.mk (HK1.out.trans (KR.below HLE1.out hbe))
     have HRL1:=A0_.mk HRD1.out.lt
     clear y0 hbe HAR1 HRD1 HK1
     generalize w1.alloc (.cells #[.int .i64 (2 * ((a0 : Int) + (k : Int) + 1)),.int .i64 (0 : Int),.int .i64 0] 61) = w2 at hl2 HAR2 HRD2 HK2 y1b ⊢
     generalize w1.heap.size = gl at hl2 HAR2 HLE0 HLE1 HRL1 ⊢
     have l2 : w2.cell? ⟨gl,2,none⟩ = some (.int .i64 0):=bC_ hl2 2
     have z2:=bF_ hl2 2
     go_upto_region 9 with (fail)
     clear l2 z2 y1b
     have hl3 : (w2.setCell ⟨gl,2,none⟩ (.int .i64 (0 : Int))).heap[gl]? = some (.cells #[.int .i64 (2 * ((a0 : Int) + (k : Int) + 1)),.int .i64 (0 : Int),.int .i64 (0 : Int)] 61 (0,0)):=blk_put hl2 2 _ rfl
     have HAR3:=A0_.mk (Kd.R_mono (Kd.R_far HAR2.out (p:=⟨gl,2,none⟩) (fun k hk => Nat.ne_of_lt hk.2) (.int .i64 (0 : Int))) (fun k hk => hk.1))
     have HRD3:=A0_.mk (show SD (w2.setCell ⟨gl,2,none⟩ (.int .i64 (0 : Int))) R s _ _ from blk_far HRD2.out (p:=⟨gl,2,none⟩) (Nat.ne_of_lt HRL1.out) _)
     have HK3:=A0_.mk (KR.setCell HK2.out HLE0.out HLE1.out 2 (.int .i64 (0 : Int)))
     clear hl2 HAR2 HRD2 HK2
     generalize w2.setCell ⟨gl,2,none⟩ (.int .i64 (0 : Int)) = w3 at hl3 HAR3 HRD3 HK3 ⊢
     have m0 : w3.cell? ⟨gl,0,none⟩ = some (.int .i64 (2 * ((a0 : Int) + (k : Int) + 1))):=bC_ hl3 0
     have m1 : w3.cell? ⟨gl,1,none⟩ = some (.int .i64 (0 : Int)):=bC_ hl3 1
     have m2 : w3.cell? ⟨gl,2,none⟩ = some (.int .i64 (0 : Int)):=bC_ hl3 2
     clear hl3
     go_wp2_with (at_builtin;refine Kd.R_append k108 (w0:=w3) w.heap.size rfl (.tmp 41) (.tmp 43) 23 61 (.agg #[(.int .i64 0),(.int .i64 0),(.int .i64 0)]) 24 rfl Tryz.underlying23 info108 rfl (by decide) (by decide) _ acc (⟨2 * ((a0 : Int) + (k : Int) + 1),(0 : Int),(0 : Int)⟩ : S108) [.int .i64 (2 * ((a0 : Int) + (k : Int) + 1)),.int .i64 (0 : Int),.int .i64 (0 : Int)] (fun k => True ∧ k ≠ R) (fun _ => False) rfl rfl (k108_mkM _ _ _ (⟨2 * ((a0 : Int) + (k : Int) + 1),(0 : Int),(0 : Int)⟩ : S108)) (fun _ h => h.elim) (fun k hk => ⟨trivial,by have:=HRL.out;have:=HK3.out.kb.1;omega⟩) HAR3.out (Below.refl _ _) HK3.out.kb.1 (by have:=HAL.out;have:=HN.out;omega) ?_;intro v5 w5 hr5 hb5 hg5 hat5;have HR5:=A0_.mk hr5;have HK5:=A0_.mk (HK3.out.grown hg5 (fun k e => Kd.R_base HAR3.out k e) (Nat.le_of_lt HRL.out));have HRD5:=A0_.mk (HRD3.out.grown hg5 (fun e => by have:=Kd.R_base HAR3.out R e.symm;have:=HRL.out;omega));clear hr5 hb5 hg5 hat5)
     go_roundg g1
     case measure => omega
     case rel => exact ⟨k + 1,acc ++ [(⟨2 * ((a0 : Int) + (k : Int) + 1),(0 : Int),(0 : Int)⟩ : S108)],rfl,⟨by have:=HK.out;omega⟩,⟨by omega⟩,⟨by rw [List.length_append,HAL.out];rfl⟩,⟨Kd.R_mono HR5.out (fun _ _ => trivial)⟩,HK5,⟨Or.inr ⟨pk,pk,HRES.out,HRD5.out⟩⟩⟩
    |some xq =>
     obtain ⟨x,q⟩:=xq
     rw [hrow] at HC
     have hxl:=rowB_len hrow
     rw [e1,latchesB_step hrow,appOk_app] at hr
     have HPL:=A0_.mk (rowB_place HPK.out hrow)
     rcases one_or_two hxl with ⟨xa,rfl⟩|⟨xa,xb,rfl⟩
     ·have HC:=A0_.mk HC
      have HRES2:=A0_.mk (show appOk (acc ++ [⟨2 * ((a0 : Int) + (k : Int) + 1),xa,0⟩]) (latchesB s (a0 + (k + 1)) (n - (k + 1)) q) = res from hr)
      clear hr e1 hrow hxl
      go_upto_region 7 with (go_at_call 53;refine HC.out.mono ?_;rintro e w1 ⟨v,rfl,hrr,hrd,hkr⟩;obtain ⟨g,cp,rfl,hgb,hcc⟩:=row_some hrr (Nat.zero_lt_succ _);have y0 : w1.cell? ⟨g,0,none⟩ = some (.int .i64 xa):=hcc 0 (Nat.zero_lt_succ _);have HRD1:=A0_.mk hrd;have HK1:=A0_.mk (HKR.out.trans hkr);have HAR1:=A0_.mk (Kd.R_mono (Kd.R_bound (hkr.latrow HFAR.out)) (fun k hk => (⟨hk.1,hk.2.2.1⟩ : (True ∧ k ≠ R) ∧ k < w1.heap.size)));clear hrr hgb hcc hrd hkr)
      have HLE1:=A0_.mk (Nat.le_trans (Nat.le_of_lt HRL.out) HK1.out.kb.1)
      have HLE0:=A0_.mk HK1.out.kb.1
      have hbe : Below w1.heap.size w1 (w1.alloc (.cells #[.int .i64 (2 * ((a0 : Int) + (k : Int) + 1)),.int .i64 xa,.int .i64 0] 61)):=eA_ (Below.refl _ _) _
      have hl2:=blk_new w1 (.cells #[.int .i64 (2 * ((a0 : Int) + (k : Int) + 1)),.int .i64 xa,.int .i64 0] 61)
      have HAR2:=A0_.mk (Kd.R_below HAR1.out hbe)
      have HRD2:=A0_.mk (HRD1.out.below hbe)
      have HK2:=A0_.mk (HK1.out.trans (KR.below HLE1.out hbe))
      have HRL1:=A0_.mk HRD1.out.lt
      clear y0 hbe HAR1 HRD1 HK1
      generalize w1.alloc (.cells #[.int .i64 (2 * ((a0 : Int) + (k : Int) + 1)),.int .i64 xa,.int .i64 0] 61) = w2 at hl2 HAR2 HRD2 HK2 ⊢
      generalize w1.heap.size = gl at hl2 HAR2 HLE0 HLE1 HRL1 ⊢
      go_upto_region 9 with (fail)
      have hl3:=hl2
      have HAR3:=A0_.mk (Kd.R_mono HAR2.out (fun k hk => hk.1))
      have HRD3:=HRD2
      have HK3:=HK2
      clear hl2 HAR2 HRD2 HK2
      have m0 : w2.cell? ⟨gl,0,none⟩ = some (.int .i64 (2 * ((a0 : Int) + (k : Int) + 1))):=bC_ hl3 0
      have m1 : w2.cell? ⟨gl,1,none⟩ = some (.int .i64 xa):=bC_ hl3 1
      have m2 : w2.cell? ⟨gl,2,none⟩ = some (.int .i64 0):=bC_ hl3 2
      clear hl3
      go_wp2_with (at_builtin;refine Kd.R_append k108 (w0:=w2) w.heap.size rfl (.tmp 41) (.tmp 43) 23 61 (.agg #[(.int .i64 0),(.int .i64 0),(.int .i64 0)]) 24 rfl Tryz.underlying23 info108 rfl (by decide) (by decide) _ acc (⟨2 * ((a0 : Int) + (k : Int) + 1),xa,0⟩ : S108) [.int .i64 (2 * ((a0 : Int) + (k : Int) + 1)),.int .i64 xa,.int .i64 0] (fun k => True ∧ k ≠ R) (fun _ => False) rfl rfl (k108_mkM _ _ _ (⟨2 * ((a0 : Int) + (k : Int) + 1),xa,0⟩ : S108)) (fun _ h => h.elim) (fun k hk => ⟨trivial,by have:=HRL.out;have:=HK3.out.kb.1;omega⟩) HAR3.out (Below.refl _ _) HK3.out.kb.1 (by have:=HAL.out;have:=HN.out;omega) ?_;intro v5 w5 hr5 hb5 hg5 hat5;have HR5:=A0_.mk hr5;have HK5:=A0_.mk (HK3.out.grown hg5 (fun k e => Kd.R_base HAR3.out k e) (Nat.le_of_lt HRL.out));have HRD5:=A0_.mk (HRD3.out.grown hg5 (fun e => by have:=Kd.R_base HAR3.out R e.symm;have:=HRL.out;omega));clear hr5 hb5 hg5 hat5)
      go_roundg g1
      case measure => omega
      case rel => exact ⟨k + 1,acc ++ [(⟨2 * ((a0 : Int) + (k : Int) + 1),xa,0⟩ : S108)],rfl,⟨by have:=HK.out;omega⟩,⟨by omega⟩,⟨by rw [List.length_append,HAL.out];rfl⟩,⟨Kd.R_mono HR5.out (fun _ _ => trivial)⟩,HK5,⟨Or.inl ⟨q,HPL.out.2,HRES2.out,HRD5.out⟩⟩⟩
     ·have HC:=A0_.mk HC
      have HRES2:=A0_.mk (show appOk (acc ++ [⟨2 * ((a0 : Int) + (k : Int) + 1),xa,xb⟩]) (latchesB s (a0 + (k + 1)) (n - (k + 1)) q) = res from hr)
      clear hr e1 hrow hxl
      go_upto_region 7 with (go_at_call 53;refine HC.out.mono ?_;rintro e w1 ⟨v,rfl,hrr,hrd,hkr⟩;obtain ⟨g,cp,rfl,hgb,hcc⟩:=row_some hrr (Nat.zero_lt_succ _);have y0 : w1.cell? ⟨g,0,none⟩ = some (.int .i64 xa):=hcc 0 (Nat.zero_lt_succ _);have y1 : w1.cell? ⟨g,1,none⟩ = some (.int .i64 xb):=hcc 1 (Nat.succ_lt_succ (Nat.zero_lt_succ _));have HRD1:=A0_.mk hrd;have HK1:=A0_.mk (HKR.out.trans hkr);have HAR1:=A0_.mk (Kd.R_mono (Kd.R_bound (hkr.latrow HFAR.out)) (fun k hk => (⟨hk.1,hk.2.2.1⟩ : (True ∧ k ≠ R) ∧ k < w1.heap.size)));clear hrr hgb hcc hrd hkr)
      have HLE1:=A0_.mk (Nat.le_trans (Nat.le_of_lt HRL.out) HK1.out.kb.1)
      have HLE0:=A0_.mk HK1.out.kb.1
      have hbe : Below w1.heap.size w1 (w1.alloc (.cells #[.int .i64 (2 * ((a0 : Int) + (k : Int) + 1)),.int .i64 xa,.int .i64 0] 61)):=eA_ (Below.refl _ _) _
      have hl2:=blk_new w1 (.cells #[.int .i64 (2 * ((a0 : Int) + (k : Int) + 1)),.int .i64 xa,.int .i64 0] 61)
      have y1b:=(hbe.cell (World.block_lt_of_cell? w1 _ y1)).trans y1
      clear y1
      have HAR2:=A0_.mk (Kd.R_below HAR1.out hbe)
      have HRD2:=A0_.mk (HRD1.out.below hbe)
      have HK2:=A0_.mk (HK1.out.trans (KR.below HLE1.out hbe))
      have HRL1:=A0_.mk HRD1.out.lt
      clear y0 hbe HAR1 HRD1 HK1
      generalize w1.alloc (.cells #[.int .i64 (2 * ((a0 : Int) + (k : Int) + 1)),.int .i64 xa,.int .i64 0] 61) = w2 at hl2 HAR2 HRD2 HK2 y1b ⊢
      generalize w1.heap.size = gl at hl2 HAR2 HLE0 HLE1 HRL1 ⊢
      have l2 : w2.cell? ⟨gl,2,none⟩ = some (.int .i64 0):=bC_ hl2 2
      have z2:=bF_ hl2 2
      go_upto_region 9 with (fail)
      clear l2 z2 y1b
      have hl3 : (w2.setCell ⟨gl,2,none⟩ (.int .i64 xb)).heap[gl]? = some (.cells #[.int .i64 (2 * ((a0 : Int) + (k : Int) + 1)),.int .i64 xa,.int .i64 xb] 61 (0,0)):=blk_put hl2 2 _ rfl
      have HAR3:=A0_.mk (Kd.R_mono (Kd.R_far HAR2.out (p:=⟨gl,2,none⟩) (fun k hk => Nat.ne_of_lt hk.2) (.int .i64 xb)) (fun k hk => hk.1))
      have HRD3:=A0_.mk (show SD (w2.setCell ⟨gl,2,none⟩ (.int .i64 xb)) R s _ _ from blk_far HRD2.out (p:=⟨gl,2,none⟩) (Nat.ne_of_lt HRL1.out) _)
      have HK3:=A0_.mk (KR.setCell HK2.out HLE0.out HLE1.out 2 (.int .i64 xb))
      clear hl2 HAR2 HRD2 HK2
      generalize w2.setCell ⟨gl,2,none⟩ (.int .i64 xb) = w3 at hl3 HAR3 HRD3 HK3 ⊢
      have m0 : w3.cell? ⟨gl,0,none⟩ = some (.int .i64 (2 * ((a0 : Int) + (k : Int) + 1))):=bC_ hl3 0
      have m1 : w3.cell? ⟨gl,1,none⟩ = some (.int .i64 xa):=bC_ hl3 1
      have m2 : w3.cell? ⟨gl,2,none⟩ = some (.int .i64 xb):=bC_ hl3 2
      clear hl3
      go_wp2_with (at_builtin;refine Kd.R_append k108 (w0:=w3) w.heap.size rfl (.tmp 41) (.tmp 43) 23 61 (.agg #[(.int .i64 0),(.int .i64 0),(.int .i64 0)]) 24 rfl Tryz.underlying23 info108 rfl (by decide) (by decide) _ acc (⟨2 * ((a0 : Int) + (k : Int) + 1),xa,xb⟩ : S108) [.int .i64 (2 * ((a0 : Int) + (k : Int) + 1)),.int .i64 xa,.int .i64 xb] (fun k => True ∧ k ≠ R) (fun _ => False) rfl rfl (k108_mkM _ _ _ (⟨2 * ((a0 : Int) + (k : Int) + 1),xa,xb⟩ : S108)) (fun _ h => h.elim) (fun k hk => ⟨trivial,by have:=HRL.out;have:=HK3.out.kb.1;omega⟩) HAR3.out (Below.refl _ _) HK3.out.kb.1 (by have:=HAL.out;have:=HN.out;omega) ?_;intro v5 w5 hr5 hb5 hg5 hat5;have HR5:=A0_.mk hr5;have HK5:=A0_.mk (HK3.out.grown hg5 (fun k e => Kd.R_base HAR3.out k e) (Nat.le_of_lt HRL.out));have HRD5:=A0_.mk (HRD3.out.grown hg5 (fun e => by have:=Kd.R_base HAR3.out R e.symm;have:=HRL.out;omega));clear hr5 hb5 hg5 hat5)
      go_roundg g1
      case measure => omega
      case rel => exact ⟨k + 1,acc ++ [(⟨2 * ((a0 : Int) + (k : Int) + 1),xa,xb⟩ : S108)],rfl,⟨by have:=HK.out;omega⟩,⟨by omega⟩,⟨by rw [List.length_append,HAL.out];rfl⟩,⟨Kd.R_mono HR5.out (fun _ _ => trivial)⟩,HK5,⟨Or.inl ⟨q,HPL.out.2,HRES2.out,HRD5.out⟩⟩⟩
   ·have ckb : decide ((k : Int) < (n : Int)) = false:=decide_eq_false (by omega)
    have ckb' : decide (k < n) = false:=decide_eq_false ck
    have e1 : n - k = 0:=by omega
    rw [e1,latchesB] at hr
    have e2 : appOk acc (.ok (([] : List S108),pk)) = .ok (acc,pk):=by simp [appOk]
    rw [e2] at hr
    subst hr
    clear e1 e2
    go_wp2
    go_ret
    exact ⟨_,rfl,HAR.out,HSDW.out,HKR.out⟩
  ·have HSDW:=A0_.mk hsd
   have c2 : wr.cell? ⟨R,2,none⟩ = some (.int .i64 (x : Int)):=bC_ hsd 2
   have d2 : decide ((x : Int) < 0) = false:=decide_eq_false (by omega)
   clear HST hsd
   subst hr
   by_cases ck : k < n
   ·have ckb : decide ((k : Int) < (n : Int)) = true:=decide_eq_true (by omega)
    have ckb' : decide (k < n) = true:=decide_eq_true ck
    go_wp2
    go_ret
    exact ⟨_,_,_,rfl,HAR.out,HSDW.out,HKR.out⟩
   ·have ckb : decide ((k : Int) < (n : Int)) = false:=decide_eq_false (by omega)
    have ckb' : decide (k < n) = false:=decide_eq_false ck
    go_wp2
    go_ret
    exact ⟨_,_,_,rfl,HAR.out,HSDW.out,HKR.out⟩
end Go.Proofs.YtdmngdohlobogaaGreatDoor.Asc
end
