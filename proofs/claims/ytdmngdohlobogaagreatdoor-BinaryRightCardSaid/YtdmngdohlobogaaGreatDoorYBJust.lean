import Derived.Test.YtdmngdohlobogaaGreatDoorYM30
namespace Go.Proofs.YtdmngdohlobogaaGreatDoor.Asc
open Go Go.RowKit Go.Proofs.YtdmngdohlobogaaGreatDoorW.PrintWords Go.Proofs.YtdmngdohlobogaaGreatDoorW.PrintLast Go.Proofs.YtdmngdohlobogaaGreatDoorW.PrintMore
set_option linter.unusedVariables false
set_option linter.unusedSimpArgs false
theorem numW_range {s : ByteArray} {k : Nat} {n : Int} {e : Nat} (h : numW s k = some (n,e)) : 0 ≤ n ∧ n ≤ 2147483647:=by
 unfold numW at h
 split at h
 ·rename_i u hu
  split at h
  ·cases h
  ·injection h with h
   injection h with h1 h2
   have:=Lib.parseUintB_le hu
   omega
 ·cases h
theorem numsB_range {l : ByteArray} {most : Nat} : ∀ (f k : Nat) (out ns : List Int),numsB l most f k out = some ns → (∀ y ∈ out,0 ≤ y ∧ y ≤ 2147483647) → ∀ y ∈ ns,0 ≤ y ∧ y ≤ 2147483647
 |0,k,out,ns,h,ho => by cases h
 |f + 1,k,out,ns,h,ho => by
  unfold numsB at h
  split at h
  ·cases h
  ·rename_i n e hnw
   have hn:=numW_range hnw
   have ho2 : ∀ y ∈ out ++ [n],0 ≤ y ∧ y ≤ 2147483647:=fun y hy => by
    rcases List.mem_append.1 hy with hy|hy
    ·exact ho y hy
    ·rw [List.mem_singleton.1 hy];exact hn
   split at h
   ·cases h
   ·split at h
    ·cases h
    ·split at h
     ·injection h with h
      subst h
      exact ho2
     ·exact numsB_range f (e + 1) (out ++ [n]) ns h ho2
theorem rowB_range {s : ByteArray} {p q a b : Nat} {x : List Int} (h : rowB s p a b = some (x,q)) : ∀ y ∈ x,0 ≤ y ∧ y ≤ 2147483647:=by
 unfold rowB at h
 obtain ⟨y,hy,h⟩:=Option.bind_eq_some_iff.1 h
 obtain ⟨z,hz,h⟩:=Option.bind_eq_some_iff.1 h
 split at h
 ·cases h
 ·injection h with h
  injection h with h1 h2
  subst h1
  exact numsB_range _ _ _ _ hz (fun _ hy => by cases hy)
theorem sizesB_step {s : ByteArray} {p q m : Nat} {x : Int} (h : rowB s p 1 1 = some ([x],q)) (hx : ¬ 16384 < x) : sizesB s (m + 1) p = appOk [x] (sizesB s m q):=by
 rw [sizesB,h]
 dsimp only
 rw [if_neg (show ¬ 16384 < ([x] : List Int).getD 0 0 from hx)]
 cases sizesB s m q with
 |error e => rfl
 |ok y => rfl
theorem justB_step {s : ByteArray} {p q : Nat} {x : List Int} {k : Int} {ks : List Int} (h : listB s k.toNat p = .ok (x,q)) : justB s (k :: ks) p = appOk [x] (justB s ks q):=by
 rw [justB,h]
 dsimp only
 cases justB s ks q with
 |error e => rfl
 |ok y => rfl
theorem listB_place {s : ByteArray} : ∀ (n p : Nat) {l : List Int} {q : Nat},p ≤ s.size → listB s n p = .ok (l,q) → q ≤ s.size
 |0,p,l,q,hp,h => by
  rw [listB] at h
  injection h with h
  injection h with h1 h2
  omega
 |n + 1,p,l,q,hp,h => by
  rw [listB] at h
  split at h
  ·cases h
  ·rename_i x q1 hr
   split at h
   ·cases h
   ·rename_i l2 r hl
    injection h with h
    injection h with h1 h2
    have:=listB_place n q1 (rowB_place hp hr).2 hl
    omega
def justAllB (s : ByteArray) (n p : Nat) : Except Nat (List (List Int) × Nat):=match sizesB s n p with
 |.error x => .error x
 |.ok (z,q) => justB s z q
abbrev kSL : Kd (List Int):=Kd.slice 3 (Kd.int .i64)
def JustEndB (w : World) (R : Nat) (s : ByteArray) (r : Except Nat (List (List Int) × Nat)) (e : Ending) (w' : World) : Prop:=match r with
 |.error x => ∃ v l q,e = .returned v ∧ Kd.R kSL 22 w' w.heap.size (fun _ => True) v l ∧ SD w' R s q (x : Int) ∧ KR w w' R
 |.ok (l,q) => ∃ v,e = .returned v ∧ Kd.R kSL 22 w' w.heap.size (fun _ => True) v l ∧ SD w' R s q (-1) ∧ KR w w' R
theorem rowsB_far {w : World} {R base : Nat} {v : Value} {xs : List (List Int)} (hR : R < base) (hr : Kd.R kSL 22 w base (fun _ => True) v xs) : Kd.R kSL 22 w base (fun k => True ∧ k ≠ R) v xs :=
 Kd.R_mono (Kd.R_bound hr) (fun k hk => ⟨trivial,by have:=hk.2.1;omega⟩)
set_option maxHeartbeats 4000000 in
set_option maxRecDepth 100000 in
theorem justB_calls {w0 w : World} {R p n : Nat} {s : ByteArray} (hG : GV w0) (hB : Below w0.heap.size w0 w) (hR0 : w0.heap.size ≤ R) (hR : SD w R s p (-1)) (hp : p ≤ s.size) (hs : s.size ≤ 262144) (hn : n ≤ 16384) :
  Calls Tryz.prog 21 #[.pointer (some ⟨R,0,none⟩),.int .i64 (n : Int)] w (JustEndB w R s (justAllB s n p)):=by
 obtain ⟨res,hres⟩ : ∃ res,justAllB s n p = res:=⟨_,rfl⟩
 rw [hres]
 obtain ⟨sz,hsz⟩ : ∃ sz,sizesB s n p = sz:=⟨_,rfl⟩
 unfold justAllB at hres
 rw [hsz] at hres
 have HRES:=A0_.mk hres
 have HSZ:=A0_.mk hsz
 have HG:=A0_.mk hG
 have HB:=A0_.mk hB
 have HR0:=A0_.mk hR0
 have HSD:=A0_.mk hR
 have HP:=A0_.mk hp
 have HS:=A0_.mk hs
 have HN:=A0_.mk hn
 have HRL:=A0_.mk hR.lt
 clear hres hsz hG hB hR0 hR hp hs hn
 go_enter Tryz.func21,Tryz.ntmps21
 go_wp2
 (try simp only [Act.put,sA_,sB_,sC_])
 go_loopg [5,6] (n + 1) (fun kq v5 v6 w' => ∃ (k : Nat) (acc : List Int),v6 = .int .i64 k ∧ A0_ (k + kq = n + 1) ∧ A0_ (k ≤ n) ∧ A0_ (acc.length = k) ∧ A0_ (∀ y ∈ acc,0 ≤ y) ∧ A0_ (Kd.R (Kd.int .i64) 3 w' w.heap.size (fun _ => True) v5 acc) ∧ A0_ (KR w w' R) ∧ A0_ ((∃ pk,pk ≤ s.size ∧ appOk acc (sizesB s (n - k) pk) = sz ∧ (∀ y ∈ acc,y ≤ 16384) ∧ SD w' R s pk (-1)) ∨ (∃ pk x : Nat,sz = .error x ∧ SD w' R s pk (x : Int))))
 case atStart => exact ⟨0,[],rfl,⟨by omega⟩,⟨by omega⟩,⟨rfl⟩,⟨fun _ hy => by cases hy⟩,⟨Kd.R_nil _ _ _ _ _⟩,⟨KR.refl _ _⟩,⟨Or.inl ⟨p,HP.out,by rw [appOk_nil];exact HSZ.out,(fun _ hy => by cases hy),HSD.out⟩⟩⟩
 case round =>
  clear HSZ HSD HP
  obtain ⟨k,acc,rfl,HK,HKN,HAL,HPOS,HAR,HKR,HST⟩:=hrel
  obtain ⟨A5,n5,rfl⟩:=Kd.R_slice HAR.out
  rcases HST.out with ⟨pk,hpk,hr,hle,hsd⟩|⟨pk,x,hr,hsd⟩
  ·have HSDW:=A0_.mk hsd
   have c1 : wr.cell? ⟨R,1,none⟩ = some (.int .i64 (pk : Int)):=bC_ hsd 1
   have c2 : wr.cell? ⟨R,2,none⟩ = some (.int .i64 (-1)):=bC_ hsd 2
   have HPK:=A0_.mk hpk
   have HLE:=A0_.mk hle
   clear HST hsd hpk hle
   by_cases ck : k < n
   ·obtain ⟨g1,rfl⟩ : ∃ g1,gk = g1 + 1:=by
     cases gk with
     |zero => have:=HK.out;omega
     |succ g1 => exact ⟨g1,rfl⟩
    have ckb : decide ((k : Int) < (n : Int)) = true:=decide_eq_true (by omega)
    have ckb' : decide (k < n) = true:=decide_eq_true ck
    have HCK:=A0_.mk ck
    have hw1 : IntKind.i64.wrap ((k : Int) + 1) = ((k + 1 : Nat) : Int):=by have:=HN.out;rw [IntKind.wrap_i64];omega
    have hB2 : Below w0.heap.size w0 wr:=HKR.out.base HB.out HR0.out
    have HC:=rowB_calls (least:=1) (most:=1) HG.out hB2 HR0.out HSDW.out HPK.out HS.out (by omega)
    have e1 : n - k = (n - (k + 1)) + 1:=by omega
    have HFAR:=A0_.mk (row_far HRL.out HAR.out)
    clear hB2 HAR
    cases hrow : rowB s pk 1 1 with
    |none =>
     rw [hrow] at HC
     have HC:=A0_.mk HC
     rw [e1,sizesB,hrow] at hr
     have HSZ2:=A0_.mk (show sz = .error pk from hr.symm)
     have HX0:=A0_.mk (show (0 : Int) ≤ 0 from Int.le_refl _)
     have d2 : decide ((pk : Int) < 0) = false:=decide_eq_false (by omega)
     clear hr e1 hrow ck
     go_upto_region 7 with (go_at_call 53;refine HC.out.mono ?_;rintro e w1 ⟨v,rfl,hrr,hrd,hkr⟩;obtain ⟨g,cp,rfl,hgb,hcc⟩:=row_some hrr (Nat.lt_succ_self 0);have y0 : w1.cell? ⟨g,0,none⟩ = some (.int .i64 (0 : Int)):=hcc 0 (Nat.lt_succ_self 0);have HRD1:=A0_.mk hrd;have HK1:=A0_.mk (HKR.out.trans hkr);have HAR1:=A0_.mk (hkr.row HFAR.out);clear hrr hgb hcc hrd hkr)
     have b2 : w1.cell? ⟨R,2,none⟩ = some (.int .i64 (pk : Int)):=bC_ HRD1.out 2
     go_wp2_with (at_builtin;refine Kd.R_append (Kd.int .i64) (w0:=w1) w.heap.size rfl (.tmp 45) (.tmp 47) 22 3 (.int .i64 0) 8 rfl Tryz.underlying22 info3a rfl (by decide) (by decide) _ acc (0 : Int) [.int .i64 (0 : Int)] (fun k => True ∧ k ≠ R) (fun _ => False) rfl rfl rfl (fun _ h => h.elim) (fun k hk => ⟨trivial,by have:=HRL.out;have:=HK1.out.kb.1;omega⟩) HAR1.out (Below.refl _ _) HK1.out.kb.1 (by have:=HAL.out;have:=HN.out;have:=HKN.out;omega) ?_;intro v3 w3 hr3 hb3 hg3 hat3;have HR3:=A0_.mk hr3;have HK3:=A0_.mk (HK1.out.grown hg3 (fun k e => Kd.R_base HAR1.out k e) (Nat.le_of_lt HRL.out));have HRD3:=A0_.mk (HRD1.out.grown hg3 (fun e => by have:=Kd.R_base HAR1.out R e.symm;have:=HRL.out;omega));clear hr3 hb3 hg3 hat3)
     go_roundg g1
     case measure => omega
     case rel => exact ⟨k + 1,acc ++ [(0 : Int)],rfl,⟨by have:=HK.out;omega⟩,⟨by have:=HCK.out;omega⟩,⟨by rw [List.length_append,HAL.out];rfl⟩,⟨fun y hy => by rcases List.mem_append.1 hy with hy|hy;exact HPOS.out y hy;rw [List.mem_singleton.1 hy];exact HX0.out⟩,⟨Kd.R_mono HR3.out (fun _ _ => trivial)⟩,HK3,⟨Or.inr ⟨pk,pk,HSZ2.out,HRD3.out⟩⟩⟩
    |some xq =>
     obtain ⟨x,q⟩:=xq
     rw [hrow] at HC
     have HC:=A0_.mk HC
     have hxl:=rowB_len hrow
     have hxr:=rowB_range hrow
     have HPL:=A0_.mk (rowB_place HPK.out hrow)
     have hx1 : x.length = 1:=by omega
     obtain ⟨x0,rfl⟩ : ∃ x0,x = [x0]:=List.length_eq_one_iff.1 hx1
     have HX0:=A0_.mk (hxr x0 (List.mem_singleton.2 rfl)).1
     by_cases cx : 16384 < x0
     ·have cxb : decide ((16384 : Int) < x0) = true:=decide_eq_true cx
      have HSZ2:=A0_.mk (show sz = .error pk by
       rw [← hr,e1,sizesB,hrow]
       dsimp only
       rw [if_pos (show 16384 < ([x0] : List Int).getD 0 0 from cx)]
       rfl)
      clear hr e1 hrow hxl hx1 hxr ck
      go_upto_region 7 with (go_at_call 53;refine HC.out.mono ?_;rintro e w1 ⟨v,rfl,hrr,hrd,hkr⟩;obtain ⟨g,cp,rfl,hgb,hcc⟩:=row_some hrr (Nat.lt_succ_self 0);have y0 : w1.cell? ⟨g,0,none⟩ = some (.int .i64 x0):=hcc 0 (Nat.lt_succ_self 0);have HRD1:=A0_.mk hrd;have HK1:=A0_.mk (HKR.out.trans hkr);have HAR1:=A0_.mk (hkr.row HFAR.out);clear hrr hgb hcc hrd hkr)
      have b2 : w1.cell? ⟨R,2,none⟩ = some (.int .i64 (-1)):=bC_ HRD1.out 2
      have z2:=bF_ HRD1.out 2
      go_upto_region 9 with (fail)
      clear z2 b2 y0
      have HRD2:=A0_.mk (HRD1.out.bad (pk : Int))
      have HK2:=A0_.mk (HK1.out.trans (KR.set w1 R 2 (.int .i64 (pk : Int))))
      have HAR2:=A0_.mk (Kd.R_far HAR1.out (p:=⟨R,2,none⟩) (fun k hk => hk.2) (.int .i64 (pk : Int)))
      clear HRD1 HK1 HAR1 c1 c2
      generalize w1.setCell ⟨R,2,none⟩ (.int .i64 (pk : Int)) = w2 at HRD2 HK2 HAR2 ⊢
      go_wp2_with (at_builtin;refine Kd.R_append (Kd.int .i64) (w0:=w2) w.heap.size rfl (.tmp 45) (.tmp 47) 22 3 (.int .i64 0) 8 rfl Tryz.underlying22 info3a rfl (by decide) (by decide) _ acc x0 [.int .i64 x0] (fun k => True ∧ k ≠ R) (fun _ => False) rfl rfl rfl (fun _ h => h.elim) (fun k hk => ⟨trivial,by have:=HRL.out;have:=HK2.out.kb.1;omega⟩) HAR2.out (Below.refl _ _) HK2.out.kb.1 (by have:=HAL.out;have:=HN.out;have:=HKN.out;omega) ?_;intro v3 w3 hr3 hb3 hg3 hat3;have HR3:=A0_.mk hr3;have HK3:=A0_.mk (HK2.out.grown hg3 (fun k e => Kd.R_base HAR2.out k e) (Nat.le_of_lt HRL.out));have HRD3:=A0_.mk (HRD2.out.grown hg3 (fun e => by have:=Kd.R_base HAR2.out R e.symm;have:=HRL.out;omega));clear hr3 hb3 hg3 hat3)
      go_roundg g1
      case measure => omega
      case rel => exact ⟨k + 1,acc ++ [x0],rfl,⟨by have:=HK.out;omega⟩,⟨by have:=HCK.out;omega⟩,⟨by rw [List.length_append,HAL.out];rfl⟩,⟨fun y hy => by rcases List.mem_append.1 hy with hy|hy;exact HPOS.out y hy;rw [List.mem_singleton.1 hy];exact HX0.out⟩,⟨Kd.R_mono HR3.out (fun _ _ => trivial)⟩,HK3,⟨Or.inr ⟨q,pk,HSZ2.out,HRD3.out⟩⟩⟩
     ·have cxb : decide ((16384 : Int) < x0) = false:=decide_eq_false cx
      rw [e1,sizesB_step hrow cx,appOk_app] at hr
      have HSZ2:=A0_.mk hr
      have HX1:=A0_.mk (show x0 ≤ 16384 by omega)
      clear hr e1 hrow hxl hx1 hxr ck
      go_upto_region 7 with (go_at_call 53;refine HC.out.mono ?_;rintro e w1 ⟨v,rfl,hrr,hrd,hkr⟩;obtain ⟨g,cp,rfl,hgb,hcc⟩:=row_some hrr (Nat.lt_succ_self 0);have y0 : w1.cell? ⟨g,0,none⟩ = some (.int .i64 x0):=hcc 0 (Nat.lt_succ_self 0);have HRD1:=A0_.mk hrd;have HK1:=A0_.mk (HKR.out.trans hkr);have HAR1:=A0_.mk (hkr.row HFAR.out);clear hrr hgb hcc hrd hkr)
      have b2 : w1.cell? ⟨R,2,none⟩ = some (.int .i64 (-1)):=bC_ HRD1.out 2
      go_wp2_with (at_builtin;refine Kd.R_append (Kd.int .i64) (w0:=w1) w.heap.size rfl (.tmp 45) (.tmp 47) 22 3 (.int .i64 0) 8 rfl Tryz.underlying22 info3a rfl (by decide) (by decide) _ acc x0 [.int .i64 x0] (fun k => True ∧ k ≠ R) (fun _ => False) rfl rfl rfl (fun _ h => h.elim) (fun k hk => ⟨trivial,by have:=HRL.out;have:=HK1.out.kb.1;omega⟩) HAR1.out (Below.refl _ _) HK1.out.kb.1 (by have:=HAL.out;have:=HN.out;have:=HKN.out;omega) ?_;intro v3 w3 hr3 hb3 hg3 hat3;have HR3:=A0_.mk hr3;have HK3:=A0_.mk (HK1.out.grown hg3 (fun k e => Kd.R_base HAR1.out k e) (Nat.le_of_lt HRL.out));have HRD3:=A0_.mk (HRD1.out.grown hg3 (fun e => by have:=Kd.R_base HAR1.out R e.symm;have:=HRL.out;omega));clear hr3 hb3 hg3 hat3)
      go_roundg g1
      case measure => omega
      case rel => exact ⟨k + 1,acc ++ [x0],rfl,⟨by have:=HK.out;omega⟩,⟨by have:=HCK.out;omega⟩,⟨by rw [List.length_append,HAL.out];rfl⟩,⟨fun y hy => by rcases List.mem_append.1 hy with hy|hy;exact HPOS.out y hy;rw [List.mem_singleton.1 hy];exact HX0.out⟩,⟨Kd.R_mono HR3.out (fun _ _ => trivial)⟩,HK3,⟨Or.inl ⟨q,HPL.out.2,HSZ2.out,(fun y hy => by rcases List.mem_append.1 hy with hy|hy;exact HLE.out y hy;rw [List.mem_singleton.1 hy];exact HX1.out),HRD3.out⟩⟩⟩
   ·have ckb : decide ((k : Int) < (n : Int)) = false:=decide_eq_false (by omega)
    have ckb' : decide (k < n) = false:=decide_eq_false ck
    have e1 : n - k = 0:=by omega
    rw [e1,sizesB] at hr
    have e2 : appOk acc (.ok (([] : List Int),pk)) = .ok (acc,pk):=by simp [appOk]
    rw [e2] at hr
    have HSTT : A0_ ((∃ pk,pk ≤ s.size ∧ appOk [] (justB s (acc.drop 0) pk) = res ∧ (∀ y ∈ acc,y ≤ 16384) ∧ SD wr R s pk (-1)) ∨ (∃ pk x : Nat,res = .error x ∧ SD wr R s pk (x : Int))):=⟨Or.inl ⟨pk,HPK.out,by rw [appOk_nil,List.drop_zero];have h:=HRES.out;rw [← hr] at h;exact h,HLE.out,HSDW.out⟩⟩
    have HALN:=A0_.mk (show acc.length ≤ n by have:=HAL.out;have:=HKN.out;omega)
    have HST:=A0_.mk trivial
    clear e1 e2 hr HAL HSDW HPK HLE
    go_upto_region 10 with (fail)
    clear c1 c2 ck ckb ckb'
    clear HK HKN
    generalize wr = W8 at HAR HKR HSTT ⊢
    have HZL:=A0_.mk (show acc.length ≤ 16384 by have:=HALN.out;have:=HN.out;omega)
    go_wp2
    (try simp only [Act.put,sA_,sB_,sC_])
    go_loopg [9,51] (acc.length + 1) (fun kq v9 v51 w' => ∃ (k : Nat) (jacc : List (List Int)),v51 = .int .i64 k ∧ A0_ (k + kq = acc.length + 1) ∧ A0_ (k ≤ acc.length) ∧ A0_ (jacc.length = k) ∧ A0_ (Kd.R kSL 22 w' w.heap.size (fun _ => True) v9 jacc) ∧ A0_ (Kd.R (Kd.int .i64) 3 w' w.heap.size (fun _ => True) (.slice A5 acc.length n5) acc) ∧ A0_ (KR w w' R) ∧ A0_ ((∃ pk,pk ≤ s.size ∧ appOk jacc (justB s (acc.drop k) pk) = res ∧ (∀ y ∈ acc,y ≤ 16384) ∧ SD w' R s pk (-1)) ∨ (∃ pk x : Nat,res = .error x ∧ SD w' R s pk (x : Int))))
    case atStart => exact ⟨0,[],rfl,⟨by omega⟩,⟨Nat.zero_le _⟩,⟨rfl⟩,⟨Kd.R_nil _ _ _ _ _⟩,HAR,HKR,HSTT⟩
    case round =>
     clear HSTT HAR HKR HRES HST
     obtain ⟨k,jacc,rfl,HK,HKN,HAL,HAJ,HAR,HKR,HST⟩:=hrel
     obtain ⟨A9,n9,rfl⟩:=Kd.R_slice HAJ.out
     by_cases ck : k < acc.length
     ·obtain ⟨g1,rfl⟩ : ∃ g1,gk = g1 + 1:=by
       cases gk with
       |zero => have:=HK.out;omega
       |succ g1 => exact ⟨g1,rfl⟩
      have ckb : decide ((k : Int) < (acc.length : Int)) = true:=decide_eq_true (by omega)
      have hw1 : IntKind.i64.wrap ((k : Int) + 1) = ((k + 1 : Nat) : Int):=by have:=HZL.out;rw [IntKind.wrap_i64];omega
      have p0 : (0 ≤ (k : Int)) = True:=eq_true (by omega)
      have p1 : ((k : Int) < (acc.length : Int)) = True:=eq_true (by omega)
      obtain ⟨gz,cpz,he,_,hcz⟩:=row_some HAR.out (by omega)
      injection he with he1 he2 he3
      subst he1
      have cz:=hcz k ck
      have hdr : acc.drop k = acc.getD k 0 :: acc.drop (k + 1):=by
       rw [List.drop_eq_getElem_cons ck]
       simp [List.getD_eq_getElem?_getD,List.getElem?_eq_getElem ck]
      have hmem : acc.getD k 0 ∈ acc:=by rw [List.getD_eq_getElem?_getD,List.getElem?_eq_getElem ck];exact List.getElem_mem ck
      have hz0:=HPOS.out _ hmem
      obtain ⟨kz,hkz⟩ : ∃ kz : Nat,acc.getD k 0 = (kz : Int):=⟨(acc.getD k 0).toNat,by omega⟩
      rw [hkz] at cz hmem hdr
      have HCK:=A0_.mk ck
      have HOL:=A0_.mk (R_lt HAJ.out)
      have HAJF:=A0_.mk (rowsB_far HRL.out HAJ.out)
      clear he2 he3 hcz hkz hz0 ck
      have HAJ2:=HAJ
      rcases HST.out with ⟨pk,hpk,hr,hle,hsd⟩|⟨pk,x,hr,hsd⟩
      ·have HSDW:=A0_.mk hsd
       have hkl:=hle _ hmem
       have HLE:=A0_.mk hle
       have hB2 : Below w0.heap.size w0 wr:=HKR.out.base HB.out HR0.out
       have HC:=listB_calls (n:=kz) HG.out hB2 HR0.out HSDW.out hpk HS.out (by omega)
       rw [hdr] at hr
       cases hl : listB s kz pk with
       |error x =>
        rw [hl] at HC
        have HC:=A0_.mk HC
        rw [justB,Int.toNat_natCast,hl] at hr
        have HRES2:=A0_.mk (show res = .error x from hr.symm)
        clear hr hl hdr hmem hkl hB2 hpk hle hsd HST
        go_wp2_with (first|(go_at_call 20;refine HC.out.mono ?_;rintro e w1 ⟨v,l,q,rfl,hrr,hrd,hkr⟩;obtain ⟨Al,nl,rfl⟩:=Kd.R_slice hrr;have HRD1:=A0_.mk hrd;have HK1:=A0_.mk (HKR.out.trans hkr);have HAJ1:=A0_.mk (rowsB_far HRL.out (KR.rows' hkr HAJ.out HRL.out));have HZ1:=A0_.mk (KR.rows' hkr HAR.out HRL.out);have HMM:=A0_.mk (show kSL.M w1 w.heap.size (fun k => wr.heap.size ≤ k) l [.slice Al l.length nl] from ⟨_,rfl,Kd.R_lower (Kd.R_mono (Kd.R_bound hrr) (fun k hk => hk.2.1)) HKR.out.kb.1⟩);clear hrr hrd hkr)|(at_builtin;refine Kd.R_append kSL (w0:=w1) w.heap.size rfl (.tmp 55) (.tmp 59) 24 22 (.slice none 0 0) 24 rfl Tryz.underlying24 info47 rfl (by decide) (by decide) _ jacc l [.slice Al l.length nl] (fun k => True ∧ k ≠ R) (fun k => wr.heap.size ≤ k) rfl rfl HMM.out (fun k hk => ⟨⟨trivial,by have:=HKR.out.kb.1;have:=HRL.out;omega⟩,fun e => by have h1 : k < wr.heap.size:=HOL.out k e.symm;omega⟩) (fun k hk => ⟨trivial,by have:=HRL.out;have:=HK1.out.kb.1;omega⟩) HAJ1.out (Below.refl _ _) HK1.out.kb.1 (by have:=HAL.out;have:=HCK.out;have:=HZL.out;omega) ?_;intro v3 w3 hr3 hb3 hg3 hat3;have HR3:=A0_.mk (Kd.R_mono hr3 (fun _ _ => trivial));have HK3:=A0_.mk (HK1.out.grown hg3 (fun k e => Kd.R_base HAJ1.out k e) (Nat.le_of_lt HRL.out));have HRD3:=A0_.mk (HRD1.out.grown hg3 (fun e => by have:=Kd.R_base HAJ1.out R e.symm;have:=HRL.out;omega));have HZ3:=A0_.mk (Kd.R_over' HZ1.out (Kd.R_typed HAJ1.out) (by decide) hg3);clear hr3 hb3 hg3 hat3))
        go_roundg g1
        case measure => omega
        case rel => exact ⟨k + 1,jacc ++ [l],rfl,⟨by have:=HK.out;omega⟩,⟨by have:=HCK.out;omega⟩,⟨by rw [List.length_append,HAL.out];rfl⟩,HR3,HZ3,HK3,⟨Or.inr ⟨_,x,HRES2.out,HRD3.out⟩⟩⟩
       |ok lq =>
        obtain ⟨l,q⟩:=lq
        rw [hl] at HC
        have HC:=A0_.mk HC
        rw [justB_step (k:=(kz : Int)) (by rw [Int.toNat_natCast];exact hl),appOk_app] at hr
        have HRES2:=A0_.mk hr
        have HPL:=A0_.mk (listB_place kz pk hpk hl)
        clear hr hl hdr hmem hkl hB2 hpk hle hsd HST
        go_wp2_with (first|(go_at_call 20;refine HC.out.mono ?_;rintro e w1 ⟨v,rfl,hrr,hrd,hkr⟩;obtain ⟨Al,nl,rfl⟩:=Kd.R_slice hrr;have HRD1:=A0_.mk hrd;have HK1:=A0_.mk (HKR.out.trans hkr);have HAJ1:=A0_.mk (rowsB_far HRL.out (KR.rows' hkr HAJ.out HRL.out));have HZ1:=A0_.mk (KR.rows' hkr HAR.out HRL.out);have HMM:=A0_.mk (show kSL.M w1 w.heap.size (fun k => wr.heap.size ≤ k) l [.slice Al l.length nl] from ⟨_,rfl,Kd.R_lower (Kd.R_mono (Kd.R_bound hrr) (fun k hk => hk.2.1)) HKR.out.kb.1⟩);clear hrr hrd hkr)|(at_builtin;refine Kd.R_append kSL (w0:=w1) w.heap.size rfl (.tmp 55) (.tmp 59) 24 22 (.slice none 0 0) 24 rfl Tryz.underlying24 info47 rfl (by decide) (by decide) _ jacc l [.slice Al l.length nl] (fun k => True ∧ k ≠ R) (fun k => wr.heap.size ≤ k) rfl rfl HMM.out (fun k hk => ⟨⟨trivial,by have:=HKR.out.kb.1;have:=HRL.out;omega⟩,fun e => by have h1 : k < wr.heap.size:=HOL.out k e.symm;omega⟩) (fun k hk => ⟨trivial,by have:=HRL.out;have:=HK1.out.kb.1;omega⟩) HAJ1.out (Below.refl _ _) HK1.out.kb.1 (by have:=HAL.out;have:=HCK.out;have:=HZL.out;omega) ?_;intro v3 w3 hr3 hb3 hg3 hat3;have HR3:=A0_.mk (Kd.R_mono hr3 (fun _ _ => trivial));have HK3:=A0_.mk (HK1.out.grown hg3 (fun k e => Kd.R_base HAJ1.out k e) (Nat.le_of_lt HRL.out));have HRD3:=A0_.mk (HRD1.out.grown hg3 (fun e => by have:=Kd.R_base HAJ1.out R e.symm;have:=HRL.out;omega));have HZ3:=A0_.mk (Kd.R_over' HZ1.out (Kd.R_typed HAJ1.out) (by decide) hg3);clear hr3 hb3 hg3 hat3))
        go_roundg g1
        case measure => omega
        case rel => exact ⟨k + 1,jacc ++ [l],rfl,⟨by have:=HK.out;omega⟩,⟨by have:=HCK.out;omega⟩,⟨by rw [List.length_append,HAL.out];rfl⟩,HR3,HZ3,HK3,⟨Or.inl ⟨q,HPL.out,HRES2.out,HLE.out,HRD3.out⟩⟩⟩
      ·have HSDW:=A0_.mk hsd
       have HC:=A0_.mk (listB_off (n:=kz) hsd (by omega))
       have HRES2:=A0_.mk hr
       clear hr hdr hmem hsd HST
       go_wp2_with (first|(go_at_call 20;refine HC.out.mono ?_;rintro e w1 ⟨rfl,rfl⟩;have HRD1:=HSDW;have HK1:=HKR;have HAJ1:=HAJF;have HZ1:=HAR;have HMM:=A0_.mk (show kSL.M w1 w.heap.size (fun k => w1.heap.size ≤ k) ([] : List Int) [.slice none 0 0] from ⟨_,rfl,Kd.R_nil _ _ _ _ _⟩))|(at_builtin;refine Kd.R_append kSL (w0:=w1) w.heap.size rfl (.tmp 55) (.tmp 59) 24 22 (.slice none 0 0) 24 rfl Tryz.underlying24 info47 rfl (by decide) (by decide) _ jacc ([] : List Int) [.slice none 0 0] (fun k => True ∧ k ≠ R) (fun k => w1.heap.size ≤ k) rfl rfl HMM.out (fun k hk => ⟨⟨trivial,by have:=HKR.out.kb.1;have:=HRL.out;omega⟩,fun e => by have h1 : k < w1.heap.size:=HOL.out k e.symm;omega⟩) (fun k hk => ⟨trivial,by have:=HRL.out;have:=HK1.out.kb.1;omega⟩) HAJ1.out (Below.refl _ _) HK1.out.kb.1 (by have:=HAL.out;have:=HCK.out;have:=HZL.out;omega) ?_;intro v3 w3 hr3 hb3 hg3 hat3;have HR3:=A0_.mk (Kd.R_mono hr3 (fun _ _ => trivial));have HK3:=A0_.mk (HK1.out.grown hg3 (fun k e => Kd.R_base HAJ1.out k e) (Nat.le_of_lt HRL.out));have HRD3:=A0_.mk (HRD1.out.grown hg3 (fun e => by have:=Kd.R_base HAJ1.out R e.symm;have:=HRL.out;omega));have HZ3:=A0_.mk (Kd.R_over' HZ1.out (Kd.R_typed HAJ1.out) (by decide) hg3);clear hr3 hb3 hg3 hat3))
       go_roundg g1
       case measure => omega
       case rel => exact ⟨k + 1,jacc ++ [([] : List Int)],rfl,⟨by have:=HK.out;omega⟩,⟨by have:=HCK.out;omega⟩,⟨by rw [List.length_append,HAL.out];rfl⟩,HR3,HZ3,HK3,⟨Or.inr ⟨pk,x,HRES2.out,HRD3.out⟩⟩⟩
     ·have ckb : decide ((k : Int) < (acc.length : Int)) = false:=decide_eq_false (by omega)
      have hkn : k = acc.length:=by have:=HKN.out;omega
      rcases HST.out with ⟨pk,hpk,hr,hle,hsd⟩|⟨pk,x,hr,hsd⟩
      ·rw [show acc.drop k = [] from List.drop_eq_nil_of_le (by omega),justB] at hr
       have e2 : appOk jacc (.ok (([] : List (List Int)),pk)) = .ok (jacc,pk):=by simp [appOk]
       rw [e2] at hr
       subst hr
       have HSDW:=A0_.mk hsd
       clear e2 hsd hle hpk HST hkn
       go_wp2
       go_ret
       exact ⟨_,rfl,HAJ.out,HSDW.out,HKR.out⟩
      ·subst hr
       have HSDW:=A0_.mk hsd
       clear hsd HST hkn
       go_wp2
       go_ret
       exact ⟨_,_,_,rfl,HAJ.out,HSDW.out,HKR.out⟩
  ·have HSDW:=A0_.mk hsd
   have c2 : wr.cell? ⟨R,2,none⟩ = some (.int .i64 (x : Int)):=bC_ hsd 2
   have d2 : decide ((x : Int) < 0) = false:=decide_eq_false (by omega)
   have HSTT : A0_ ((∃ pk,pk ≤ s.size ∧ appOk [] (justB s (acc.drop 0) pk) = res ∧ (∀ y ∈ acc,y ≤ 16384) ∧ SD wr R s pk (-1)) ∨ (∃ pk x : Nat,res = .error x ∧ SD wr R s pk (x : Int))):=⟨Or.inr ⟨pk,x,by have h:=HRES.out;rw [hr] at h;exact h.symm,HSDW.out⟩⟩
   have HALN:=A0_.mk (show acc.length ≤ n by have:=HAL.out;have:=HKN.out;omega)
   clear HST hsd hr
   have HST:=A0_.mk trivial
   by_cases ck : k < n
   ·have ckb : decide ((k : Int) < (n : Int)) = true:=decide_eq_true (by omega)
    have ckb' : decide (k < n) = true:=decide_eq_true ck
    clear HAL HSDW
    go_upto_region 10 with (fail)
    clear c2 d2 ck ckb ckb'
    clear HK HKN
    generalize wr = W8 at HAR HKR HSTT ⊢
    have HZL:=A0_.mk (show acc.length ≤ 16384 by have:=HALN.out;have:=HN.out;omega)
    go_wp2
    (try simp only [Act.put,sA_,sB_,sC_])
    go_loopg [9,51] (acc.length + 1) (fun kq v9 v51 w' => ∃ (k : Nat) (jacc : List (List Int)),v51 = .int .i64 k ∧ A0_ (k + kq = acc.length + 1) ∧ A0_ (k ≤ acc.length) ∧ A0_ (jacc.length = k) ∧ A0_ (Kd.R kSL 22 w' w.heap.size (fun _ => True) v9 jacc) ∧ A0_ (Kd.R (Kd.int .i64) 3 w' w.heap.size (fun _ => True) (.slice A5 acc.length n5) acc) ∧ A0_ (KR w w' R) ∧ A0_ ((∃ pk,pk ≤ s.size ∧ appOk jacc (justB s (acc.drop k) pk) = res ∧ (∀ y ∈ acc,y ≤ 16384) ∧ SD w' R s pk (-1)) ∨ (∃ pk x : Nat,res = .error x ∧ SD w' R s pk (x : Int))))
    case atStart => exact ⟨0,[],rfl,⟨by omega⟩,⟨Nat.zero_le _⟩,⟨rfl⟩,⟨Kd.R_nil _ _ _ _ _⟩,HAR,HKR,HSTT⟩
    case round =>
     clear HSTT HAR HKR HRES HST
     obtain ⟨k,jacc,rfl,HK,HKN,HAL,HAJ,HAR,HKR,HST⟩:=hrel
     obtain ⟨A9,n9,rfl⟩:=Kd.R_slice HAJ.out
     by_cases ck : k < acc.length
     ·obtain ⟨g1,rfl⟩ : ∃ g1,gk = g1 + 1:=by
       cases gk with
       |zero => have:=HK.out;omega
       |succ g1 => exact ⟨g1,rfl⟩
      have ckb : decide ((k : Int) < (acc.length : Int)) = true:=decide_eq_true (by omega)
      have hw1 : IntKind.i64.wrap ((k : Int) + 1) = ((k + 1 : Nat) : Int):=by have:=HZL.out;rw [IntKind.wrap_i64];omega
      have p0 : (0 ≤ (k : Int)) = True:=eq_true (by omega)
      have p1 : ((k : Int) < (acc.length : Int)) = True:=eq_true (by omega)
      obtain ⟨gz,cpz,he,_,hcz⟩:=row_some HAR.out (by omega)
      injection he with he1 he2 he3
      subst he1
      have cz:=hcz k ck
      have hdr : acc.drop k = acc.getD k 0 :: acc.drop (k + 1):=by
       rw [List.drop_eq_getElem_cons ck]
       simp [List.getD_eq_getElem?_getD,List.getElem?_eq_getElem ck]
      have hmem : acc.getD k 0 ∈ acc:=by rw [List.getD_eq_getElem?_getD,List.getElem?_eq_getElem ck];exact List.getElem_mem ck
      have hz0:=HPOS.out _ hmem
      obtain ⟨kz,hkz⟩ : ∃ kz : Nat,acc.getD k 0 = (kz : Int):=⟨(acc.getD k 0).toNat,by omega⟩
      rw [hkz] at cz hmem hdr
      have HCK:=A0_.mk ck
      have HOL:=A0_.mk (R_lt HAJ.out)
      have HAJF:=A0_.mk (rowsB_far HRL.out HAJ.out)
      clear he2 he3 hcz hkz hz0 ck
      have HAJ2:=HAJ
      rcases HST.out with ⟨pk,hpk,hr,hle,hsd⟩|⟨pk,x,hr,hsd⟩
      ·have HSDW:=A0_.mk hsd
       have hkl:=hle _ hmem
       have HLE:=A0_.mk hle
       have hB2 : Below w0.heap.size w0 wr:=HKR.out.base HB.out HR0.out
       have HC:=listB_calls (n:=kz) HG.out hB2 HR0.out HSDW.out hpk HS.out (by omega)
       rw [hdr] at hr
       cases hl : listB s kz pk with
       |error x =>
        rw [hl] at HC
        have HC:=A0_.mk HC
        rw [justB,Int.toNat_natCast,hl] at hr
        have HRES2:=A0_.mk (show res = .error x from hr.symm)
        clear hr hl hdr hmem hkl hB2 hpk hle hsd HST
        go_wp2_with (first|(go_at_call 20;refine HC.out.mono ?_;rintro e w1 ⟨v,l,q,rfl,hrr,hrd,hkr⟩;obtain ⟨Al,nl,rfl⟩:=Kd.R_slice hrr;have HRD1:=A0_.mk hrd;have HK1:=A0_.mk (HKR.out.trans hkr);have HAJ1:=A0_.mk (rowsB_far HRL.out (KR.rows' hkr HAJ.out HRL.out));have HZ1:=A0_.mk (KR.rows' hkr HAR.out HRL.out);have HMM:=A0_.mk (show kSL.M w1 w.heap.size (fun k => wr.heap.size ≤ k) l [.slice Al l.length nl] from ⟨_,rfl,Kd.R_lower (Kd.R_mono (Kd.R_bound hrr) (fun k hk => hk.2.1)) HKR.out.kb.1⟩);clear hrr hrd hkr)|(at_builtin;refine Kd.R_append kSL (w0:=w1) w.heap.size rfl (.tmp 55) (.tmp 59) 24 22 (.slice none 0 0) 24 rfl Tryz.underlying24 info47 rfl (by decide) (by decide) _ jacc l [.slice Al l.length nl] (fun k => True ∧ k ≠ R) (fun k => wr.heap.size ≤ k) rfl rfl HMM.out (fun k hk => ⟨⟨trivial,by have:=HKR.out.kb.1;have:=HRL.out;omega⟩,fun e => by have h1 : k < wr.heap.size:=HOL.out k e.symm;omega⟩) (fun k hk => ⟨trivial,by have:=HRL.out;have:=HK1.out.kb.1;omega⟩) HAJ1.out (Below.refl _ _) HK1.out.kb.1 (by have:=HAL.out;have:=HCK.out;have:=HZL.out;omega) ?_;intro v3 w3 hr3 hb3 hg3 hat3;have HR3:=A0_.mk (Kd.R_mono hr3 (fun _ _ => trivial));have HK3:=A0_.mk (HK1.out.grown hg3 (fun k e => Kd.R_base HAJ1.out k e) (Nat.le_of_lt HRL.out));have HRD3:=A0_.mk (HRD1.out.grown hg3 (fun e => by have:=Kd.R_base HAJ1.out R e.symm;have:=HRL.out;omega));have HZ3:=A0_.mk (Kd.R_over' HZ1.out (Kd.R_typed HAJ1.out) (by decide) hg3);clear hr3 hb3 hg3 hat3))
        go_roundg g1
        case measure => omega
        case rel => exact ⟨k + 1,jacc ++ [l],rfl,⟨by have:=HK.out;omega⟩,⟨by have:=HCK.out;omega⟩,⟨by rw [List.length_append,HAL.out];rfl⟩,HR3,HZ3,HK3,⟨Or.inr ⟨_,x,HRES2.out,HRD3.out⟩⟩⟩
       |ok lq =>
        obtain ⟨l,q⟩:=lq
        rw [hl] at HC
        have HC:=A0_.mk HC
        rw [justB_step (k:=(kz : Int)) (by rw [Int.toNat_natCast];exact hl),appOk_app] at hr
        have HRES2:=A0_.mk hr
        have HPL:=A0_.mk (listB_place kz pk hpk hl)
        clear hr hl hdr hmem hkl hB2 hpk hle hsd HST
        go_wp2_with (first|(go_at_call 20;refine HC.out.mono ?_;rintro e w1 ⟨v,rfl,hrr,hrd,hkr⟩;obtain ⟨Al,nl,rfl⟩:=Kd.R_slice hrr;have HRD1:=A0_.mk hrd;have HK1:=A0_.mk (HKR.out.trans hkr);have HAJ1:=A0_.mk (rowsB_far HRL.out (KR.rows' hkr HAJ.out HRL.out));have HZ1:=A0_.mk (KR.rows' hkr HAR.out HRL.out);have HMM:=A0_.mk (show kSL.M w1 w.heap.size (fun k => wr.heap.size ≤ k) l [.slice Al l.length nl] from ⟨_,rfl,Kd.R_lower (Kd.R_mono (Kd.R_bound hrr) (fun k hk => hk.2.1)) HKR.out.kb.1⟩);clear hrr hrd hkr)|(at_builtin;refine Kd.R_append kSL (w0:=w1) w.heap.size rfl (.tmp 55) (.tmp 59) 24 22 (.slice none 0 0) 24 rfl Tryz.underlying24 info47 rfl (by decide) (by decide) _ jacc l [.slice Al l.length nl] (fun k => True ∧ k ≠ R) (fun k => wr.heap.size ≤ k) rfl rfl HMM.out (fun k hk => ⟨⟨trivial,by have:=HKR.out.kb.1;have:=HRL.out;omega⟩,fun e => by have h1 : k < wr.heap.size:=HOL.out k e.symm;omega⟩) (fun k hk => ⟨trivial,by have:=HRL.out;have:=HK1.out.kb.1;omega⟩) HAJ1.out (Below.refl _ _) HK1.out.kb.1 (by have:=HAL.out;have:=HCK.out;have:=HZL.out;omega) ?_;intro v3 w3 hr3 hb3 hg3 hat3;have HR3:=A0_.mk (Kd.R_mono hr3 (fun _ _ => trivial));have HK3:=A0_.mk (HK1.out.grown hg3 (fun k e => Kd.R_base HAJ1.out k e) (Nat.le_of_lt HRL.out));have HRD3:=A0_.mk (HRD1.out.grown hg3 (fun e => by have:=Kd.R_base HAJ1.out R e.symm;have:=HRL.out;omega));have HZ3:=A0_.mk (Kd.R_over' HZ1.out (Kd.R_typed HAJ1.out) (by decide) hg3);clear hr3 hb3 hg3 hat3))
        go_roundg g1
        case measure => omega
        case rel => exact ⟨k + 1,jacc ++ [l],rfl,⟨by have:=HK.out;omega⟩,⟨by have:=HCK.out;omega⟩,⟨by rw [List.length_append,HAL.out];rfl⟩,HR3,HZ3,HK3,⟨Or.inl ⟨q,HPL.out,HRES2.out,HLE.out,HRD3.out⟩⟩⟩
      ·have HSDW:=A0_.mk hsd
       have HC:=A0_.mk (listB_off (n:=kz) hsd (by omega))
       have HRES2:=A0_.mk hr
       clear hr hdr hmem hsd HST
       go_wp2_with (first|(go_at_call 20;refine HC.out.mono ?_;rintro e w1 ⟨rfl,rfl⟩;have HRD1:=HSDW;have HK1:=HKR;have HAJ1:=HAJF;have HZ1:=HAR;have HMM:=A0_.mk (show kSL.M w1 w.heap.size (fun k => w1.heap.size ≤ k) ([] : List Int) [.slice none 0 0] from ⟨_,rfl,Kd.R_nil _ _ _ _ _⟩))|(at_builtin;refine Kd.R_append kSL (w0:=w1) w.heap.size rfl (.tmp 55) (.tmp 59) 24 22 (.slice none 0 0) 24 rfl Tryz.underlying24 info47 rfl (by decide) (by decide) _ jacc ([] : List Int) [.slice none 0 0] (fun k => True ∧ k ≠ R) (fun k => w1.heap.size ≤ k) rfl rfl HMM.out (fun k hk => ⟨⟨trivial,by have:=HKR.out.kb.1;have:=HRL.out;omega⟩,fun e => by have h1 : k < w1.heap.size:=HOL.out k e.symm;omega⟩) (fun k hk => ⟨trivial,by have:=HRL.out;have:=HK1.out.kb.1;omega⟩) HAJ1.out (Below.refl _ _) HK1.out.kb.1 (by have:=HAL.out;have:=HCK.out;have:=HZL.out;omega) ?_;intro v3 w3 hr3 hb3 hg3 hat3;have HR3:=A0_.mk (Kd.R_mono hr3 (fun _ _ => trivial));have HK3:=A0_.mk (HK1.out.grown hg3 (fun k e => Kd.R_base HAJ1.out k e) (Nat.le_of_lt HRL.out));have HRD3:=A0_.mk (HRD1.out.grown hg3 (fun e => by have:=Kd.R_base HAJ1.out R e.symm;have:=HRL.out;omega));have HZ3:=A0_.mk (Kd.R_over' HZ1.out (Kd.R_typed HAJ1.out) (by decide) hg3);clear hr3 hb3 hg3 hat3))
       go_roundg g1
       case measure => omega
       case rel => exact ⟨k + 1,jacc ++ [([] : List Int)],rfl,⟨by have:=HK.out;omega⟩,⟨by have:=HCK.out;omega⟩,⟨by rw [List.length_append,HAL.out];rfl⟩,HR3,HZ3,HK3,⟨Or.inr ⟨pk,x,HRES2.out,HRD3.out⟩⟩⟩
     ·have ckb : decide ((k : Int) < (acc.length : Int)) = false:=decide_eq_false (by omega)
      have hkn : k = acc.length:=by have:=HKN.out;omega
      rcases HST.out with ⟨pk,hpk,hr,hle,hsd⟩|⟨pk,x,hr,hsd⟩
      ·rw [show acc.drop k = [] from List.drop_eq_nil_of_le (by omega),justB] at hr
       have e2 : appOk jacc (.ok (([] : List (List Int)),pk)) = .ok (jacc,pk):=by simp [appOk]
       rw [e2] at hr
       subst hr
       have HSDW:=A0_.mk hsd
       clear e2 hsd hle hpk HST hkn
       go_wp2
       go_ret
       exact ⟨_,rfl,HAJ.out,HSDW.out,HKR.out⟩
      ·subst hr
       have HSDW:=A0_.mk hsd
       clear hsd HST hkn
       go_wp2
       go_ret
       exact ⟨_,_,_,rfl,HAJ.out,HSDW.out,HKR.out⟩
   ·have ckb : decide ((k : Int) < (n : Int)) = false:=decide_eq_false (by omega)
    have ckb' : decide (k < n) = false:=decide_eq_false ck
    clear HAL HSDW
    go_upto_region 10 with (fail)
    clear c2 d2 ck ckb ckb'
    clear HK HKN
    generalize wr = W8 at HAR HKR HSTT ⊢
    have HZL:=A0_.mk (show acc.length ≤ 16384 by have:=HALN.out;have:=HN.out;omega)
    go_wp2
    (try simp only [Act.put,sA_,sB_,sC_])
    go_loopg [9,51] (acc.length + 1) (fun kq v9 v51 w' => ∃ (k : Nat) (jacc : List (List Int)),v51 = .int .i64 k ∧ A0_ (k + kq = acc.length + 1) ∧ A0_ (k ≤ acc.length) ∧ A0_ (jacc.length = k) ∧ A0_ (Kd.R kSL 22 w' w.heap.size (fun _ => True) v9 jacc) ∧ A0_ (Kd.R (Kd.int .i64) 3 w' w.heap.size (fun _ => True) (.slice A5 acc.length n5) acc) ∧ A0_ (KR w w' R) ∧ A0_ ((∃ pk,pk ≤ s.size ∧ appOk jacc (justB s (acc.drop k) pk) = res ∧ (∀ y ∈ acc,y ≤ 16384) ∧ SD w' R s pk (-1)) ∨ (∃ pk x : Nat,res = .error x ∧ SD w' R s pk (x : Int))))
    case atStart => exact ⟨0,[],rfl,⟨by omega⟩,⟨Nat.zero_le _⟩,⟨rfl⟩,⟨Kd.R_nil _ _ _ _ _⟩,HAR,HKR,HSTT⟩
    case round =>
     clear HSTT HAR HKR HRES HST
     obtain ⟨k,jacc,rfl,HK,HKN,HAL,HAJ,HAR,HKR,HST⟩:=hrel
     obtain ⟨A9,n9,rfl⟩:=Kd.R_slice HAJ.out
     by_cases ck : k < acc.length
     ·obtain ⟨g1,rfl⟩ : ∃ g1,gk = g1 + 1:=by
       cases gk with
       |zero => have:=HK.out;omega
       |succ g1 => exact ⟨g1,rfl⟩
      have ckb : decide ((k : Int) < (acc.length : Int)) = true:=decide_eq_true (by omega)
      have hw1 : IntKind.i64.wrap ((k : Int) + 1) = ((k + 1 : Nat) : Int):=by have:=HZL.out;rw [IntKind.wrap_i64];omega
      have p0 : (0 ≤ (k : Int)) = True:=eq_true (by omega)
      have p1 : ((k : Int) < (acc.length : Int)) = True:=eq_true (by omega)
      obtain ⟨gz,cpz,he,_,hcz⟩:=row_some HAR.out (by omega)
      injection he with he1 he2 he3
      subst he1
      have cz:=hcz k ck
      have hdr : acc.drop k = acc.getD k 0 :: acc.drop (k + 1):=by
       rw [List.drop_eq_getElem_cons ck]
       simp [List.getD_eq_getElem?_getD,List.getElem?_eq_getElem ck]
      have hmem : acc.getD k 0 ∈ acc:=by rw [List.getD_eq_getElem?_getD,List.getElem?_eq_getElem ck];exact List.getElem_mem ck
      have hz0:=HPOS.out _ hmem
      obtain ⟨kz,hkz⟩ : ∃ kz : Nat,acc.getD k 0 = (kz : Int):=⟨(acc.getD k 0).toNat,by omega⟩
      rw [hkz] at cz hmem hdr
      have HCK:=A0_.mk ck
      have HOL:=A0_.mk (R_lt HAJ.out)
      have HAJF:=A0_.mk (rowsB_far HRL.out HAJ.out)
      clear he2 he3 hcz hkz hz0 ck
      have HAJ2:=HAJ
      rcases HST.out with ⟨pk,hpk,hr,hle,hsd⟩|⟨pk,x,hr,hsd⟩
      ·have HSDW:=A0_.mk hsd
       have hkl:=hle _ hmem
       have HLE:=A0_.mk hle
       have hB2 : Below w0.heap.size w0 wr:=HKR.out.base HB.out HR0.out
       have HC:=listB_calls (n:=kz) HG.out hB2 HR0.out HSDW.out hpk HS.out (by omega)
       rw [hdr] at hr
       cases hl : listB s kz pk with
       |error x =>
        rw [hl] at HC
        have HC:=A0_.mk HC
        rw [justB,Int.toNat_natCast,hl] at hr
        have HRES2:=A0_.mk (show res = .error x from hr.symm)
        clear hr hl hdr hmem hkl hB2 hpk hle hsd HST
        go_wp2_with (first|(go_at_call 20;refine HC.out.mono ?_;rintro e w1 ⟨v,l,q,rfl,hrr,hrd,hkr⟩;obtain ⟨Al,nl,rfl⟩:=Kd.R_slice hrr;have HRD1:=A0_.mk hrd;have HK1:=A0_.mk (HKR.out.trans hkr);have HAJ1:=A0_.mk (rowsB_far HRL.out (KR.rows' hkr HAJ.out HRL.out));have HZ1:=A0_.mk (KR.rows' hkr HAR.out HRL.out);have HMM:=A0_.mk (show kSL.M w1 w.heap.size (fun k => wr.heap.size ≤ k) l [.slice Al l.length nl] from ⟨_,rfl,Kd.R_lower (Kd.R_mono (Kd.R_bound hrr) (fun k hk => hk.2.1)) HKR.out.kb.1⟩);clear hrr hrd hkr)|(at_builtin;refine Kd.R_append kSL (w0:=w1) w.heap.size rfl (.tmp 55) (.tmp 59) 24 22 (.slice none 0 0) 24 rfl Tryz.underlying24 info47 rfl (by decide) (by decide) _ jacc l [.slice Al l.length nl] (fun k => True ∧ k ≠ R) (fun k => wr.heap.size ≤ k) rfl rfl HMM.out (fun k hk => ⟨⟨trivial,by have:=HKR.out.kb.1;have:=HRL.out;omega⟩,fun e => by have h1 : k < wr.heap.size:=HOL.out k e.symm;omega⟩) (fun k hk => ⟨trivial,by have:=HRL.out;have:=HK1.out.kb.1;omega⟩) HAJ1.out (Below.refl _ _) HK1.out.kb.1 (by have:=HAL.out;have:=HCK.out;have:=HZL.out;omega) ?_;intro v3 w3 hr3 hb3 hg3 hat3;have HR3:=A0_.mk (Kd.R_mono hr3 (fun _ _ => trivial));have HK3:=A0_.mk (HK1.out.grown hg3 (fun k e => Kd.R_base HAJ1.out k e) (Nat.le_of_lt HRL.out));have HRD3:=A0_.mk (HRD1.out.grown hg3 (fun e => by have:=Kd.R_base HAJ1.out R e.symm;have:=HRL.out;omega));have HZ3:=A0_.mk (Kd.R_over' HZ1.out (Kd.R_typed HAJ1.out) (by decide) hg3);clear hr3 hb3 hg3 hat3))
        go_roundg g1
        case measure => omega
        case rel => exact ⟨k + 1,jacc ++ [l],rfl,⟨by have:=HK.out;omega⟩,⟨by have:=HCK.out;omega⟩,⟨by rw [List.length_append,HAL.out];rfl⟩,HR3,HZ3,HK3,⟨Or.inr ⟨_,x,HRES2.out,HRD3.out⟩⟩⟩
       |ok lq =>
        obtain ⟨l,q⟩:=lq
        rw [hl] at HC
        have HC:=A0_.mk HC
        rw [justB_step (k:=(kz : Int)) (by rw [Int.toNat_natCast];exact hl),appOk_app] at hr
        have HRES2:=A0_.mk hr
        have HPL:=A0_.mk (listB_place kz pk hpk hl)
        clear hr hl hdr hmem hkl hB2 hpk hle hsd HST
        go_wp2_with (first|(go_at_call 20;refine HC.out.mono ?_;rintro e w1 ⟨v,rfl,hrr,hrd,hkr⟩;obtain ⟨Al,nl,rfl⟩:=Kd.R_slice hrr;have HRD1:=A0_.mk hrd;have HK1:=A0_.mk (HKR.out.trans hkr);have HAJ1:=A0_.mk (rowsB_far HRL.out (KR.rows' hkr HAJ.out HRL.out));have HZ1:=A0_.mk (KR.rows' hkr HAR.out HRL.out);have HMM:=A0_.mk (show kSL.M w1 w.heap.size (fun k => wr.heap.size ≤ k) l [.slice Al l.length nl] from ⟨_,rfl,Kd.R_lower (Kd.R_mono (Kd.R_bound hrr) (fun k hk => hk.2.1)) HKR.out.kb.1⟩);clear hrr hrd hkr)|(at_builtin;refine Kd.R_append kSL (w0:=w1) w.heap.size rfl (.tmp 55) (.tmp 59) 24 22 (.slice none 0 0) 24 rfl Tryz.underlying24 info47 rfl (by decide) (by decide) _ jacc l [.slice Al l.length nl] (fun k => True ∧ k ≠ R) (fun k => wr.heap.size ≤ k) rfl rfl HMM.out (fun k hk => ⟨⟨trivial,by have:=HKR.out.kb.1;have:=HRL.out;omega⟩,fun e => by have h1 : k < wr.heap.size:=HOL.out k e.symm;omega⟩) (fun k hk => ⟨trivial,by have:=HRL.out;have:=HK1.out.kb.1;omega⟩) HAJ1.out (Below.refl _ _) HK1.out.kb.1 (by have:=HAL.out;have:=HCK.out;have:=HZL.out;omega) ?_;intro v3 w3 hr3 hb3 hg3 hat3;have HR3:=A0_.mk (Kd.R_mono hr3 (fun _ _ => trivial));have HK3:=A0_.mk (HK1.out.grown hg3 (fun k e => Kd.R_base HAJ1.out k e) (Nat.le_of_lt HRL.out));have HRD3:=A0_.mk (HRD1.out.grown hg3 (fun e => by have:=Kd.R_base HAJ1.out R e.symm;have:=HRL.out;omega));have HZ3:=A0_.mk (Kd.R_over' HZ1.out (Kd.R_typed HAJ1.out) (by decide) hg3);clear hr3 hb3 hg3 hat3))
        go_roundg g1
        case measure => omega
        case rel => exact ⟨k + 1,jacc ++ [l],rfl,⟨by have:=HK.out;omega⟩,⟨by have:=HCK.out;omega⟩,⟨by rw [List.length_append,HAL.out];rfl⟩,HR3,HZ3,HK3,⟨Or.inl ⟨q,HPL.out,HRES2.out,HLE.out,HRD3.out⟩⟩⟩
      ·have HSDW:=A0_.mk hsd
       have HC:=A0_.mk (listB_off (n:=kz) hsd (by omega))
       have HRES2:=A0_.mk hr
       clear hr hdr hmem hsd HST
       go_wp2_with (first|(go_at_call 20;refine HC.out.mono ?_;rintro e w1 ⟨rfl,rfl⟩;have HRD1:=HSDW;have HK1:=HKR;have HAJ1:=HAJF;have HZ1:=HAR;have HMM:=A0_.mk (show kSL.M w1 w.heap.size (fun k => w1.heap.size ≤ k) ([] : List Int) [.slice none 0 0] from ⟨_,rfl,Kd.R_nil _ _ _ _ _⟩))|(at_builtin;refine Kd.R_append kSL (w0:=w1) w.heap.size rfl (.tmp 55) (.tmp 59) 24 22 (.slice none 0 0) 24 rfl Tryz.underlying24 info47 rfl (by decide) (by decide) _ jacc ([] : List Int) [.slice none 0 0] (fun k => True ∧ k ≠ R) (fun k => w1.heap.size ≤ k) rfl rfl HMM.out (fun k hk => ⟨⟨trivial,by have:=HKR.out.kb.1;have:=HRL.out;omega⟩,fun e => by have h1 : k < w1.heap.size:=HOL.out k e.symm;omega⟩) (fun k hk => ⟨trivial,by have:=HRL.out;have:=HK1.out.kb.1;omega⟩) HAJ1.out (Below.refl _ _) HK1.out.kb.1 (by have:=HAL.out;have:=HCK.out;have:=HZL.out;omega) ?_;intro v3 w3 hr3 hb3 hg3 hat3;have HR3:=A0_.mk (Kd.R_mono hr3 (fun _ _ => trivial));have HK3:=A0_.mk (HK1.out.grown hg3 (fun k e => Kd.R_base HAJ1.out k e) (Nat.le_of_lt HRL.out));have HRD3:=A0_.mk (HRD1.out.grown hg3 (fun e => by have:=Kd.R_base HAJ1.out R e.symm;have:=HRL.out;omega));have HZ3:=A0_.mk (Kd.R_over' HZ1.out (Kd.R_typed HAJ1.out) (by decide) hg3);clear hr3 hb3 hg3 hat3))
       go_roundg g1
       case measure => omega
       case rel => exact ⟨k + 1,jacc ++ [([] : List Int)],rfl,⟨by have:=HK.out;omega⟩,⟨by have:=HCK.out;omega⟩,⟨by rw [List.length_append,HAL.out];rfl⟩,HR3,HZ3,HK3,⟨Or.inr ⟨pk,x,HRES2.out,HRD3.out⟩⟩⟩
     ·have ckb : decide ((k : Int) < (acc.length : Int)) = false:=decide_eq_false (by omega)
      have hkn : k = acc.length:=by have:=HKN.out;omega
      rcases HST.out with ⟨pk,hpk,hr,hle,hsd⟩|⟨pk,x,hr,hsd⟩
      ·rw [show acc.drop k = [] from List.drop_eq_nil_of_le (by omega),justB] at hr
       have e2 : appOk jacc (.ok (([] : List (List Int)),pk)) = .ok (jacc,pk):=by simp [appOk]
       rw [e2] at hr
       subst hr
       have HSDW:=A0_.mk hsd
       clear e2 hsd hle hpk HST hkn
       go_wp2
       go_ret
       exact ⟨_,rfl,HAJ.out,HSDW.out,HKR.out⟩
      ·subst hr
       have HSDW:=A0_.mk hsd
       clear hsd HST hkn
       go_wp2
       go_ret
       exact ⟨_,_,_,rfl,HAJ.out,HSDW.out,HKR.out⟩
end Go.Proofs.YtdmngdohlobogaaGreatDoor.Asc

