import Derived.Test.YtifigmamaakigaaDoorMV11
namespace Go.Proofs.YtifigmamaakigaaDoor.V
open Go Go.RowKit Go.Lib Go.Proofs.YtifigmamaakigaaDoorW.PrintWords Go.Proofs.YtifigmamaakigaaDoorW.PrintLast Go.Proofs.YtifigmamaakigaaDoorW.PrintMore
set_option linter.unusedVariables false
set_option linter.unusedSimpArgs false
attribute [local go_sem high] eqA29 eqA31 eqA37
theorem merge_ok {w : World} {A : Option Addr} {c : Nat} {xs m : List RW} (hm : mergeF xs = (m,0)) (hK : KV w) (h : Kd.C kR w A xs.length xs) : Calls Tryd.prog 6 #[.slice A xs.length c] w fun e w' => ∃ B d,e = .returned (.tuple #[.slice B m.length d,.int .i64 0]) ∧ Kd.C kR w' B m.length m ∧ m.length ≤ d ∧ Below w.heap.size w w':=by
  have h:=merge_calls (xs:=xs) (c:=c) hK h
  rw [hm] at h
  refine Calls.mono h ?_
  rintro e w' ⟨v,rfl,hr,hb⟩
  obtain ⟨B,d,rfl,hle,hC⟩:=Kd.R_reads hr
  exact ⟨B,d,rfl,hC,hle,hb⟩
theorem merge_ok' {w : World} {A : Option Addr} {c n : Nat} {xs m : List RW} (hn : m.length = n) (hm : mergeF xs = (m,0)) (hK : KV w) (h : Kd.C kR w A xs.length xs) : Calls Tryd.prog 6 #[.slice A xs.length c] w fun e w' => ∃ B d,e = .returned (.tuple #[.slice B n d,.int .i64 0]) ∧ Kd.C kR w' B m.length m ∧ n ≤ d ∧ Below w.heap.size w w':=by
  subst hn
  exact merge_ok hm hK h
theorem merge_g {w : World} {A : Option Addr} {c n1 n : Nat} {xs m : List RW} (hn1 : xs.length = n1) (hn : m.length = n) (hm : mergeF xs = (m,0)) (hK : KV w) (h : Kd.C kR w A xs.length xs) : Calls Tryd.prog 6 #[.slice A n1 c] w fun e w' => ∃ B d,e = .returned (.tuple #[.slice B n d,.int .i64 0]) ∧ Kd.C kR w' B m.length m ∧ n ≤ d ∧ Below w.heap.size w w':=by
  subst hn hn1
  exact merge_ok hm hK h
theorem info31' : ∃ i,Tryd.prog.info? 31 = some i ∧ i.size = 5:=by
  obtain ⟨i0,hi,hzz⟩:=Option.map_eq_some_iff.1 info31
  simp only [Prod.mk.injEq] at hzz
  exact ⟨i0,hi,hzz.2.1⟩
theorem len_merge {xs m : List RW} (h : mergeF xs = (m,0)) : m.length ≤ 16384:=Nat.le_trans (mergeR_length (mergeF_ok h).2) (wrongF_zero.1 (mergeF_ok h).1).1
theorem merge_no {w : World} {A : Option Addr} {c : Nat} {xs : List RW} (hm : (mergeF xs).1 = []) (hK : KV w) (h : Kd.C kR w A xs.length xs) : Calls Tryd.prog 6 #[.slice A xs.length c] w fun e w' => ∃ B d,e = .returned (.tuple #[.slice B 0 d,.int .i64 (mergeF xs).2]) ∧ Below w.heap.size w w':=by
  have h:=merge_calls (xs:=xs) (c:=c) hK h
  rw [hm] at h
  refine Calls.mono h ?_
  rintro e w' ⟨v,rfl,hr,hb⟩
  obtain ⟨B,d,rfl,hle,hC⟩:=Kd.R_reads hr
  exact ⟨B,d,rfl,hb⟩
theorem R_empty {w : World} {base : Nat} (h : base ≤ w.heap.size) : kR.R 31 (w.alloc (.cells #[] 31)) base (fun _ => True) (.slice (some ⟨w.heap.size,0,none⟩) 0 0) [] :=
  ⟨fun _ _ => trivial,[],World.ownsRow_made w #[] 0 h (Nat.zero_le _) (by simp),⟨by simp,fun j p hj => by simp at hj⟩⟩
set_option maxHeartbeats 4000000 in
set_option maxRecDepth 100000 in
theorem merges_bad {w : World} {A : Option Addr} {c : Nat} {xs : List RW} {k : Int} (hG : GV w) (h : Kd.C kR w A xs.length xs) (b1 : (mergeF xs).2 ≠ 0) (b2 : (mergeF xs).1 = []) :
    Calls Tryd.prog 3 #[.slice A xs.length c,.int .i64 k] w fun e w' => e = .returned (.bool true) ∧ Below w.heap.size w w':=by
  have hu31:=Tryd.underlying31
  have MC : Aside0 (∀ W,GV W → Kd.C kR W A xs.length xs → Calls Tryd.prog 6 #[.slice A xs.length c] W fun e w' => ∃ B d,e = .returned (.tuple #[.slice B 0 d,.int .i64 (mergeF xs).2]) ∧ Below W.heap.size W w'):=⟨fun W hW hC => merge_no b2 hW.kv hC⟩
  generalize (mergeF xs).2 = eb at MC b1
  have cb : (eb != 0) = true:=by simpa using b1
  have HX:=Aside0.mk h
  have HG:=Aside0.mk hG
  clear h hG b1 b2
  go_enter Tryd.func3,Tryd.ntmps3
  go_wp2_with (first|(go_at_call 5;refine (works_calls HG.out).mono ?_;rintro e w1 ⟨rfl,hb1⟩;have HB1:=Aside0.mk hb1;clear hb1)|(go_at_call 6;refine (MC.out _ (HG.out.below HB1.out) (Kd.C_below HX.out HB1.out)).mono ?_;rintro e w2 ⟨B,d,rfl,hb2⟩;have HB2:=Aside0.mk (HB1.out.trans (SHlower HB1.out.size hb2));clear hb2))
  repeat (go_quiet (fail);try go_wp2)
  go_ret
  exact ⟨rfl,HB2.out⟩
set_option maxHeartbeats 16000000 in
set_option maxRecDepth 100000 in
theorem merges_ok {w : World} {A : Option Addr} {c : Nat} {xs m : List RW} {k : Int} (hG : GV w) (h : Kd.C kR w A xs.length xs) (hc : xs.length ≤ c) (hm : mergeF xs = (m,0)) :
    Calls Tryd.prog 3 #[.slice A xs.length c,.int .i64 k] w fun e w' => e = .returned (.bool true) ∧ Below w.heap.size w w':=by
  have hu31:=Tryd.underlying31
  have hu29:=Tryd.underlying29
  have LAW:=Aside0.mk (fun n => merges_law hm n)
  have HM:=Aside0.mk hm
  obtain ⟨on,hon,hsame⟩:=(merges_law hm 0).2.1
  have HON:=Aside0.mk hon
  have HSR:=Aside0.mk hsame
  have HLX : Aside0 (xs.length ≤ 16384):=⟨(wrongF_zero.1 (mergeF_ok hm).1).1⟩
  have HLM : Aside0 (m.length ≤ 16384):=⟨Nat.le_trans (mergeR_length (mergeF_ok hm).2) (wrongF_zero.1 (mergeF_ok hm).1).1⟩
  have hln : on.length = m.length:=hsame.1.symm
  have HLN:=Aside0.mk hln
  have HX:=Aside0.mk h
  have HG:=Aside0.mk hG
  have HC:=Aside0.mk hc
  clear h hG hm hon hsame hln hc
  go_enter Tryd.func3,Tryd.ntmps3
  go_upto_region 4 with (first|(go_at_call 5;refine (works_calls HG.out).mono ?_;rintro e w1 ⟨rfl,hb1⟩;have HB1:=Aside0.mk hb1;clear hb1)|(go_at_call 6;refine (merge_ok HM.out (HG.out.below HB1.out).kv (Kd.C_below HX.out HB1.out)).mono ?_;rintro e w2 ⟨B2,d2,rfl,hc2,_,hb2⟩;have HC2:=Aside0.mk hc2;have HB2:=Aside0.mk (HB1.out.trans (SHlower HB1.out.size hb2));clear hc2 hb2))
  go_upto_region 7 with (go_at_call 6;refine (merge_ok (LAW.out 0).1 (HG.out.below HB2.out).kv HC2.out).mono ?_;rintro e w3 ⟨B3,d3,rfl,hc3,_,hb3⟩;have HC3:=Aside0.mk hc3;have HD3:=Aside0.mk (Kd.C_below HC2.out hb3);have HB3:=Aside0.mk (HB2.out.trans (SHlower HB2.out.size hb3));clear hc3 hb3)
  go_upto_region 9 with (go_at_call 7;refine (same_calls HC3.out HD3.out).mono ?_;rintro e w5 ⟨rfl,hb5⟩;have HD5:=Aside0.mk (Kd.C_below HD3.out hb5);have HB5:=Aside0.mk (HB3.out.trans (SHlower HB3.out.size hb5));clear hb5)
  clear HC2 HB2 HC3 HD3 HB3 HB1
  have hx1 : IntKind.i64.wrap ((xs.length : Int) - 1) = (xs.length : Int) - 1:=by have:=HLX.out;rw [IntKind.wrap_i64];omega
  go_wp2
  repeat (go_quiet (fail);try go_wp2)
  (try simp only [Act.put,List.setIfInBounds_toArray,List.set_cons_zero,List.set_cons_succ])
  go_loopg [9,10] (xs.length + 1) (fun kq v9 v10 w' => ∃ (n : Nat) (bk : List RW) (vi : Int),v10 = .int .i64 vi ∧ Aside0 (vi = (n : Int) - 1) ∧ Aside0 (n + 1 = kq) ∧ Aside0 (n ≤ xs.length) ∧ Aside0 (bk = (xs.drop n).reverse) ∧ Aside0 (Kd.R kR 31 w' w5.heap.size (fun _ => True) v9 bk) ∧ Aside0 (Below w5.heap.size w5 w'))
  case atStart => exact ⟨xs.length,[],_,rfl,⟨rfl⟩,⟨rfl⟩,⟨Nat.le_refl _⟩,⟨by simp⟩,⟨Kd.R_nil _ _ _ _ _⟩,⟨Below.refl _ _⟩⟩
  case round =>
    obtain ⟨n,bk,vi,rfl,HVI,HN,HNL,HBK,HR,HBW⟩:=hrel
    obtain ⟨A9,n9,rfl⟩:=Kd.R_slice HR.out
    have HBL : Aside0 (bk.length ≤ xs.length):=⟨by rw [HBK.out,List.length_reverse,List.length_drop];omega⟩
    cases gk with
    | zero => exact absurd HN.out (by omega)
    | succ k1 =>
      cases n with
      | succ j =>
        obtain rfl : vi = (j : Int):=by have:=HVI.out;omega
        clear HVI
        have cn : j < xs.length:=HNL.out
        have p0 : (0 ≤ (j : Int)) = True:=eq_true (by omega)
        have p1 : ((j : Int) < (xs.length : Int)) = True:=eq_true (by omega)
        have p2 : decide ((j : Int) ≥ 0) = true:=decide_eq_true (by omega)
        have hw1 : IntKind.i64.wrap ((j : Int) - 1) = (j : Int) - 1:=by have:=HLX.out;rw [IntKind.wrap_i64];omega
        obtain ⟨ad,ea,hx0,hx1,hx2,hx3,hx4⟩:=row_at (Kd.C_below (Kd.C_below HX.out HB5.out) HBW.out) j cn
        cases ea
        have HNB : Aside0 (bk ++ [xs[j]] = (xs.drop j).reverse):=⟨by rw [HBK.out,List.drop_eq_getElem_cons cn,List.reverse_cons]⟩
        generalize xs[j] = x at hx0 hx1 hx2 hx3 hx4 HNB
        go_wp2_with (first|(at_builtin;refine Kd.R_append kR (w0:=w5) w5.heap.size rfl (.tmp 48) (.tmp 53) 22 31 (.agg #[(.int .u8 0),(.int .i64 0),(.string ⟨#[]⟩),(.int .i64 0),(.int .i64 0)]) 48 rfl Tryd.underlying22 info31 rfl (by decide) (by decide) (.slice A9 bk.length n9) bk x [.int .u8 x.f0,.int .i64 x.f1,.string x.f2,.int .i64 x.f3,.int .i64 x.f4] (fun _ => True) (fun k => some k ≠ (Value.slice A9 bk.length n9).ownBlock) rfl rfl (kR_mkM _ _ _ _) (fun _ h => ⟨trivial,h⟩) (fun _ _ => trivial) HR.out HBW.out HBW.out.size (by have h1:=HBL.out;have h2:=HLX.out;omega) ?_;intro v6 w6 hr6 hb6 hg6 hat6)|go_in)
        repeat (go_quiet (fail);try go_wp2)
        go_roundg k1
        case measure => omega
        case rel => exact ⟨j,bk ++ [x],_,rfl,⟨rfl⟩,⟨by have:=HN.out;omega⟩,⟨by omega⟩,HNB,⟨hr6⟩,⟨hb6⟩⟩
      | zero =>
        obtain rfl : vi = -1:=by have:=HVI.out;omega
        clear HVI
        have HBR : Aside0 (bk = xs.reverse):=⟨by rw [HBK.out,List.drop_zero]⟩
        have HMB : Aside0 (mergeF bk = (on,0)):=⟨by rw [HBR.out];exact HON.out⟩
        have HCB : Aside0 (Kd.C kR wr A9 bk.length bk):=⟨(R_C HR.out).2⟩
        clear HBR HBK HON HN HNL
        have HBX : Aside0 (Below w.heap.size w wr):=⟨HB5.out.trans (SHlower HB5.out.size HBW.out)⟩
        go_upto_region 15 with (go_at_call 6;refine (merge_ok' HLN.out HMB.out (HG.out.below HBX.out).kv HCB.out).mono ?_;rintro e w7 ⟨B7,d7,rfl,hc7,_,hb7⟩;have HC7:=Aside0.mk hc7;have HD7:=Aside0.mk (Kd.C_below (Kd.C_below HD5.out HBW.out) hb7);have HB7:=Aside0.mk (HBX.out.trans (SHlower HBX.out.size hb7));clear hc7 hb7)
        go_wp2
        repeat (go_quiet (fail);try go_wp2)
        (try simp only [Act.put,List.setIfInBounds_toArray,List.set_cons_zero,List.set_cons_succ])
        clear HCB HMB HBL HR HBW HBX HB5
        go_loopg [71] (m.length + 1) (fun kq v71 w' => ∃ (n : Nat),v71 = .int .i64 n ∧ Aside0 (n + kq = m.length + 1) ∧ Aside0 (n ≤ m.length) ∧ Aside0 (Below w7.heap.size w7 w'))
        case atStart => exact ⟨0,rfl,⟨by omega⟩,⟨Nat.zero_le _⟩,⟨Below.refl _ _⟩⟩
        case round =>
          obtain ⟨n,rfl,HN,HNL,HBW⟩:=hrel
          cases gk with
          | zero => exact absurd HN.out (by have:=HNL.out;omega)
          | succ k1 =>
            by_cases cn : n < m.length
            · have cnb : decide ((n : Int) < (m.length : Int)) = true:=decide_eq_true (by omega)
              have p0 : (0 ≤ (n : Int)) = True:=eq_true (by omega)
              have p1 : ((n : Int) < (m.length : Int)) = True:=eq_true (by omega)
              have hw1 : IntKind.i64.wrap ((n : Int) + 1) = ((n + 1 : Nat) : Int):=by have:=HLM.out;rw [IntKind.wrap_i64];omega
              have hno : n < on.length:=by have:=HLN.out;omega
              obtain ⟨ad,ea,hx0,hx1,hx2,hx3,hx4⟩:=row_at (Kd.C_below HD7.out HBW.out) n cn
              cases ea
              obtain ⟨ad2,ea,hy0,hy1,hy2,hy3,hy4⟩:=row_at (Kd.C_below HC7.out HBW.out) n hno
              cases ea
              obtain ⟨s1,s2,s3⟩:=HSR.out.2 n _ _ (List.getElem?_eq_getElem cn) (List.getElem?_eq_getElem hno)
              have HPR : Aside0 (∀ i,n = i + 1 → ∃ q : RW,wr.cell? (ad.add (i * 5)) = some (.int .u8 q.f0) ∧ wr.cell? ⟨(ad.add (i * 5)).block,(ad.add (i * 5)).off + 1,none⟩ = some (.int .i64 q.f1) ∧ kLt q.key m[n].key):=⟨by
                rintro i rfl
                obtain ⟨ad',ea,hq0,hq1,hq2,hq3,hq4⟩:=row_at (Kd.C_below HD7.out HBW.out) i (by omega)
                cases ea
                exact ⟨m[i],hq0,hq1,asc_at (LAW.out 0).2.2.1 (List.getElem?_eq_getElem (by omega)) (List.getElem?_eq_getElem cn)⟩⟩
              generalize m[n] = x at hx0 hx1 hx2 hx3 hx4 s1 s2 s3 HPR
              generalize on[n] = y at hy0 hy1 hy2 hy3 hy4 s1 s2 s3
              obtain ⟨x0,x1,x2,x3,x4⟩:=x
              obtain ⟨y0,y1,y2,y3,y4⟩:=y
              dsimp only [RW.key] at hx0 hx1 hx2 hx3 hx4 hy0 hy1 hy2 hy3 hy4 s1 s2 s3 HPR
              injection s1 with s1 s1'
              replace s1:=s1.symm
              replace s1':=s1'.symm
              replace s2:=s2.symm
              subst s1 s1' s2
              have cx3 : (x3 = 0 ∧ (x3 == 0) = true ∧ y4 = x4) ∨ (x3 == 0) = false:=by
                by_cases h : x3 = 0
                · exact .inl ⟨h,by simpa using h,s3 h⟩
                · exact .inr (by simpa using h)
              clear s3
              have HBN : Aside0 (Below w7.heap.size w7 wr):=HBW
              rcases cx3 with ⟨ex3,cx3,ey4⟩|cx3
              · subst ex3 ey4
                clear cx3
                by_cases cg : n = 0
                · have cgt : decide ((n : Int) > 0) = false:=decide_eq_false (by omega)
                  have cgp : ¬ 0 < n:=by omega
                  clear HPR cg
                  go_wp2
                  repeat (go_quiet (fail);try go_wp2)
                  go_roundg k1
                  case measure => omega
                  case rel => exact ⟨n + 1,rfl,⟨by have:=HN.out;omega⟩,⟨by omega⟩,⟨HBW.out.trans (SHlower HBW.out.size (below_drewN0 _ _))⟩⟩
                · have cgt : decide ((n : Int) > 0) = true:=decide_eq_true (by omega)
                  have cgp : 0 < n:=by omega
                  obtain ⟨i,hi⟩ : ∃ i,n = i + 1:=⟨n - 1,by omega⟩
                  obtain ⟨q,hq0,hq1,hlt⟩:=HPR.out i hi
                  have hw2 : IntKind.i64.wrap ((n : Int) - 1) = (i : Int):=by have:=HLM.out;rw [IntKind.wrap_i64];omega
                  have p2 : (0 ≤ (i : Int)) = True:=eq_true (by omega)
                  have p3 : ((i : Int) < (m.length : Int)) = True:=eq_true (by omega)
                  have HI:=Aside0.mk hi
                  clear hi cg HPR
                  obtain ⟨q0,q1,q2,q3,q4⟩:=q
                  dsimp only at hq0 hq1
                  unfold kLt at hlt
                  dsimp only [RW.key] at hlt
                  by_cases e0 : q0 = x0
                  · subst e0
                    have hge : decide (q1 ≥ x1) = false:=decide_eq_false (by omega)
                    have hge' : ¬ x1 ≤ q1:=by omega
                    clear hlt
                    by_cases e1 : q0 = 106
                    · subst e1
                      go_wp2
                      repeat (go_quiet (fail);try go_wp2)
                      go_roundg k1
                      case measure => omega
                      case rel => exact ⟨n + 1,rfl,⟨by have:=HN.out;omega⟩,⟨by omega⟩,⟨HBW.out.trans (SHlower HBW.out.size (below_drewN0 _ _))⟩⟩
                    · have e1b : (q0 == 106) = false:=by simpa using e1
                      go_wp2
                      repeat (go_quiet (fail);try go_wp2)
                      go_roundg k1
                      case measure => omega
                      case rel => exact ⟨n + 1,rfl,⟨by have:=HN.out;omega⟩,⟨by omega⟩,⟨HBW.out.trans (SHlower HBW.out.size (below_drewN0 _ _))⟩⟩
                  · have e0b : (q0 == x0) = false:=by simpa using e0
                    have hlt0 : q0 < x0:=by omega
                    clear hlt
                    by_cases e1 : q0 = 106
                    · subst e1
                      have e2b : (x0 == 98) = false:=by rw [beq_eq_false_iff_ne];omega
                      clear hlt0
                      go_wp2
                      repeat (go_quiet (fail);try go_wp2)
                      go_roundg k1
                      case measure => omega
                      case rel => exact ⟨n + 1,rfl,⟨by have:=HN.out;omega⟩,⟨by omega⟩,⟨HBW.out.trans (SHlower HBW.out.size (below_drewN0 _ _))⟩⟩
                    · have e1b : (q0 == 106) = false:=by simpa using e1
                      clear hlt0
                      go_wp2
                      repeat (go_quiet (fail);try go_wp2)
                      go_roundg k1
                      case measure => omega
                      case rel => exact ⟨n + 1,rfl,⟨by have:=HN.out;omega⟩,⟨by omega⟩,⟨HBW.out.trans (SHlower HBW.out.size (below_drewN0 _ _))⟩⟩
              · by_cases cg : n = 0
                · have cgt : decide ((n : Int) > 0) = false:=decide_eq_false (by omega)
                  have cgp : ¬ 0 < n:=by omega
                  clear HPR cg
                  go_wp2
                  repeat (go_quiet (fail);try go_wp2)
                  go_roundg k1
                  case measure => omega
                  case rel => exact ⟨n + 1,rfl,⟨by have:=HN.out;omega⟩,⟨by omega⟩,⟨HBW.out.trans (SHlower HBW.out.size (below_drewN0 _ _))⟩⟩
                · have cgt : decide ((n : Int) > 0) = true:=decide_eq_true (by omega)
                  have cgp : 0 < n:=by omega
                  obtain ⟨i,hi⟩ : ∃ i,n = i + 1:=⟨n - 1,by omega⟩
                  obtain ⟨q,hq0,hq1,hlt⟩:=HPR.out i hi
                  have hw2 : IntKind.i64.wrap ((n : Int) - 1) = (i : Int):=by have:=HLM.out;rw [IntKind.wrap_i64];omega
                  have p2 : (0 ≤ (i : Int)) = True:=eq_true (by omega)
                  have p3 : ((i : Int) < (m.length : Int)) = True:=eq_true (by omega)
                  have HI:=Aside0.mk hi
                  clear hi cg HPR
                  obtain ⟨q0,q1,q2,q3,q4⟩:=q
                  dsimp only at hq0 hq1
                  unfold kLt at hlt
                  dsimp only [RW.key] at hlt
                  by_cases e0 : q0 = x0
                  · subst e0
                    have hge : decide (q1 ≥ x1) = false:=decide_eq_false (by omega)
                    have hge' : ¬ x1 ≤ q1:=by omega
                    clear hlt
                    by_cases e1 : q0 = 106
                    · subst e1
                      go_wp2
                      repeat (go_quiet (fail);try go_wp2)
                      go_roundg k1
                      case measure => omega
                      case rel => exact ⟨n + 1,rfl,⟨by have:=HN.out;omega⟩,⟨by omega⟩,⟨HBW.out.trans (SHlower HBW.out.size (below_drewN0 _ _))⟩⟩
                    · have e1b : (q0 == 106) = false:=by simpa using e1
                      go_wp2
                      repeat (go_quiet (fail);try go_wp2)
                      go_roundg k1
                      case measure => omega
                      case rel => exact ⟨n + 1,rfl,⟨by have:=HN.out;omega⟩,⟨by omega⟩,⟨HBW.out.trans (SHlower HBW.out.size (below_drewN0 _ _))⟩⟩
                  · have e0b : (q0 == x0) = false:=by simpa using e0
                    have hlt0 : q0 < x0:=by omega
                    clear hlt
                    by_cases e1 : q0 = 106
                    · subst e1
                      have e2b : (x0 == 98) = false:=by rw [beq_eq_false_iff_ne];omega
                      clear hlt0
                      go_wp2
                      repeat (go_quiet (fail);try go_wp2)
                      go_roundg k1
                      case measure => omega
                      case rel => exact ⟨n + 1,rfl,⟨by have:=HN.out;omega⟩,⟨by omega⟩,⟨HBW.out.trans (SHlower HBW.out.size (below_drewN0 _ _))⟩⟩
                    · have e1b : (q0 == 106) = false:=by simpa using e1
                      clear hlt0
                      go_wp2
                      repeat (go_quiet (fail);try go_wp2)
                      go_roundg k1
                      case measure => omega
                      case rel => exact ⟨n + 1,rfl,⟨by have:=HN.out;omega⟩,⟨by omega⟩,⟨HBW.out.trans (SHlower HBW.out.size (below_drewN0 _ _))⟩⟩
            · have hn : n = m.length:=by have:=HNL.out;omega
              subst hn
              clear cn HN HNL
              have HB8 : Aside0 (Below w.heap.size w wr):=⟨HB7.out.trans (SHlower HB7.out.size HBW.out)⟩
              have HX8:=Aside0.mk (Kd.C_below HX.out HB8.out)
              have HD8:=Aside0.mk (Kd.C_below HD7.out HBW.out)
              clear HC7 HD7 HB7 HBW HSR HLN HD5
              have hw1 : IntKind.i64.wrap ((xs.length : Int) + 1) = ((xs.length + 1 : Nat) : Int):=by have:=HLX.out;rw [IntKind.wrap_i64];omega
              have hw3 : IntKind.u64.wrap ((xs.length : Int) + 1) = (xs.length : Int) + 1:=by have:=HLX.out;rw [IntKind.wrap_u64];omega
              have hw3' : IntKind.u64.wrap ((xs.length + 1 : Nat) : Int) = (xs.length : Int) + 1:=by have:=HLX.out;rw [IntKind.wrap_u64];omega
              have hne : ¬ ((xs.length : Int) + 1 = 0):=by omega
              have hk0 : 0 ≤ IntKind.u64.wrap k:=by rw [IntKind.wrap_u64];omega
              have ht0 : 0 ≤ (IntKind.u64.wrap k).tmod ((xs.length : Int) + 1):=Int.tmod_nonneg _ hk0
              have ht1 : (IntKind.u64.wrap k).tmod ((xs.length : Int) + 1) < (xs.length : Int) + 1:=Int.tmod_lt_of_pos _ (by omega)
              obtain ⟨q,hq⟩ : ∃ q : Nat,(IntKind.u64.wrap k).tmod ((xs.length : Int) + 1) = (q : Int):=⟨((IntKind.u64.wrap k).tmod ((xs.length : Int) + 1)).toNat,by omega⟩
              have hql : q ≤ xs.length:=by omega
              have hq1 : IntKind.u64.wrap (q : Int) = (q : Int):=by have:=HLX.out;rw [IntKind.wrap_u64];omega
              have hq2 : IntKind.i64.wrap (q : Int) = (q : Int):=by have:=HLX.out;rw [IntKind.wrap_i64];omega
              clear hk0 ht0 ht1
              have HQ:=Aside0.mk hql
              clear hql
              go_upto_region 26 with (fail)
              obtain ⟨f,hf1,hf2⟩:=(LAW.out q).2.2.2
              have HF1:=Aside0.mk hf1
              have HF2:=Aside0.mk hf2
              clear hf1 hf2 LAW
              have HTL : Aside0 ((xs.take q).length = q):=⟨by rw [List.length_take];have:=HQ.out;omega⟩
              have HTC : Aside0 (Kd.C kR wr A (xs.take q).length (xs.take q)):=⟨Kd.C_take HX8.out HQ.out⟩
              obtain ⟨i31,hi31,hs31⟩:=info31'
              have QT : ∀ W : World,(Instr.slice 22 (.slice A xs.length c) none (some (.int .i64 (q : Int))) none).run Tryd.prog W = .ok (.slice A q c) W:=fun W => by have:=cut_to 22 31 .i64 Tryd.underlying22 hi31 A xs.length c (q : Int) (by omega) (by have:=HQ.out;omega) HC.out W;simpa using this
              have QF0 : ∀ W : World,(Instr.slice 22 (.slice A xs.length c) (some (.int .i64 (q : Int))) none none).run Tryd.prog W = .ok (.slice (if c = q then A else A.map (·.add (q * 5))) (xs.length - q) (c - q)) W:=fun W => by have:=cut_from 22 31 .i64 Tryd.underlying22 hi31 5 hs31 A xs.length c (q : Int) (by omega) (by have:=HQ.out;omega) W;simpa using this
              have HDC : Aside0 (∀ W : World,Kd.C kR W A xs.length xs → Kd.C kR W (if c = q then A else A.map (·.add (q * 5))) (xs.length - q) (xs.drop q)):=⟨fun W h => by have:=Kd.C_drop h HQ.out HC.out;rw [List.length_drop] at this;exact this⟩
              generalize (if c = q then A else A.map (·.add (q * 5))) = A2 at QF0 HDC
              have QF:=Aside0.mk QF0
              clear QF0 hi31 hs31 hw1 hw3 hw3' hne hq hq1 hq2
              go_upto_region 27 with (go_at_call 6;refine (merge_g HTL.out rfl HF1.out (HG.out.below HB8.out).kv HTC.out).mono ?_;rintro e w10 ⟨B10,d10,rfl,hc10,_,hb10⟩;have HC10:=Aside0.mk hc10;have HB10:=Aside0.mk (HB8.out.trans (SHlower HB8.out.size hb10));have HX10:=Aside0.mk (Kd.C_below HX8.out hb10);have HD10:=Aside0.mk (Kd.C_below HD8.out hb10);clear hc10 hb10)
              have hc10:=Kd.C_drew HC10.out
              have hx10:=Kd.C_drew HX10.out
              have hd10:=Kd.C_drew HD10.out
              clear HC10 HX10 HD10 HX8 HD8 HTC HTL QT
              refine wp_normal' ?_
              refine start_ (n:=13) (S:=fun w' => Below w.heap.size w w') (ds:=[]) #[false,false,false,false,false,false,false,false,false,false,false,false,false] (by kernel_rfl) rfl rfl (below_drew HB10.out) (fun hHeld => ?_)
              generalize w10.drew = w11 at hc10 hx10 hd10 hHeld ⊢
              refine pure_ (i:=1) (N:=some 190) (v:=?_) (a':=?_) #[false,true,false,false,false,false,false,false,false,false,false,false,false] rfl rfl (by kernel_rfl) (fun _ _ _ h => by cases h.1) (Or.inl ⟨by rfl,?_⟩) ?_ ?_
              rotate_left
              · intro w'
                go_simp
                with_reducible rfl
              rotate_left
              · simp only [Act.put,List.setIfInBounds_toArray,List.set_cons_zero,List.set_cons_succ]
                rfl
              refine pure_ (i:=3) (N:=some 192) (v:=?_) (a':=?_) #[false,true,false,true,false,false,false,false,false,false,false,false,false] rfl rfl (by kernel_rfl) (fun _ _ _ h => by cases h.1) (Or.inl ⟨by rfl,?_⟩) ?_ ?_
              rotate_left
              · intro w'
                go_simp
                with_reducible rfl
              rotate_left
              · simp only [Act.put,List.setIfInBounds_toArray,List.set_cons_zero,List.set_cons_succ]
                rfl
              refine pure_ (i:=4) (N:=some 193) (v:=?_) (a':=?_) #[false,true,false,true,true,false,false,false,false,false,false,false,false] rfl rfl (by kernel_rfl) (fun _ _ _ h => by cases h.1) (Or.inl ⟨by rfl,?_⟩) ?_ ?_
              rotate_left
              · intro w'
                go_simp
                with_reducible rfl
              rotate_left
              · simp only [Act.put,List.setIfInBounds_toArray,List.set_cons_zero,List.set_cons_succ]
                rfl
              refine pure_ (i:=5) (N:=some 194) (v:=?_) (a':=?_) #[false,true,false,true,true,true,false,false,false,false,false,false,false] rfl rfl (by kernel_rfl) (fun _ _ _ h => by cases h.1) (Or.inl ⟨by rfl,?_⟩) ?_ ?_
              rotate_left
              · intro w'
                have qf:=QF.out w'
                go_simp
                with_reducible rfl
              rotate_left
              · simp only [Act.put,List.setIfInBounds_toArray,List.set_cons_zero,List.set_cons_succ]
                rfl
              have HH11:=Aside0.mk hHeld
              refine one_ (i:=0) (N:=some 189) #[true,true,false,true,true,true,false,false,false,false,false,false,false] rfl rfl (by kernel_rfl) (by decide) (fun K hK => ?_)
              refine value_ (v:=.slice (some ⟨w11.heap.size,0,none⟩) 0 0) (w1:=w11.alloc (.cells #[] 31)) rfl rfl ?_ ?_
              · go_simp
              have hS_ : Below w.heap.size w (w11.alloc (.cells #[] 31)):=below_alloc hHeld _
              have hr0:=R_empty (w:=w11) (base:=w11.heap.size) (Nat.le_refl _)
              have hb12 : Below w11.heap.size w11 (w11.alloc (.cells #[] 31)):=below_alloc (Below.refl _ _) _
              refine hK.out _ _ hS_ (fun _ => ?_)
              clear hK K hHeld
              have hHeld:=hS_
              clear hS_
              have HSZ : Aside0 (w11.heap.size = w11.heap.size):=⟨rfl⟩
              generalize w11.alloc (.cells #[] 31) = w12 at hr0 hb12 hHeld ⊢
              generalize hv0 : (Value.slice (some ⟨w11.heap.size,0,none⟩) 0 0) = v0 at hr0 ⊢
              refine norm_ (a':=?_) ?_ ?_
              rotate_left
              · show Act.put _ (some 189) _ = _
                simp only [Act.put,List.setIfInBounds_toArray,List.set_cons_zero,List.set_cons_succ]
                rfl
              have hfl : f.length ≤ 16384:=len_merge HF1.out
              have HFL:=Aside0.mk hfl
              have hcf:=Kd.C_below hc10 hb12
              refine one_ (i:=2) (N:=some 191) #[true,true,true,true,true,true,false,false,false,false,false,false,false] rfl rfl (by kernel_rfl) (by decide) (fun K hK => ?_)
              refine Kd.R_append_rows_step kR (Rr:=kR.K w12) (w0:=w11) w11.heap.size (by rfl) (.tmp 189) (.tmp 190) 22 31 (.agg #[(.int .u8 0),(.int .i64 0),(.string ⟨#[]⟩),(.int .i64 0),(.int .i64 0)]) 48 rfl Tryd.underlying22 info31 rfl (by decide) (by decide) v0 [] f B10 f.length d10 (fun _ => True) (fun _ => False) rfl rfl hr0 hcf (fun _ _ h => (kR_open h) ▸ kR_mkM _ _ _ _) (fun _ h => h.elim) (fun _ _ => trivial) hb12 hb12.size (by have:=HFL.out;simp;omega) ?_
              intro v13 w13 hr_ hb_ hg_ hat_
              have hS_ : Below w.heap.size w w13:=HH11.out.trans (SHlower HH11.out.size hb_)
              refine hK.out _ _ hS_ (fun _ => ?_)
              clear hK K hHeld hg_ hat_
              have hHeld:=hS_
              clear hS_
              have hr13 : kR.R 31 w13 w11.heap.size (fun _ => True) v13 f:=hr_
              have hb13:=hb_
              clear hr_ hb_ hr0 hb12 hcf hv0
              have hxd:=HDC.out _ (Kd.C_below hx10 hb13)
              refine norm_ (a':=?_) ?_ ?_
              rotate_left
              · show Act.put _ (some 191) _ = _
                simp only [Act.put,List.setIfInBounds_toArray,List.set_cons_zero,List.set_cons_succ]
                rfl
              refine one_ (i:=6) (N:=some 195) #[true,true,true,true,true,true,true,false,false,false,false,false,false] rfl rfl (by kernel_rfl) (by decide) (fun K hK => ?_)
              refine Kd.R_append_rows_step kR (Rr:=kR.K w13) (w0:=w11) w11.heap.size (by rfl) (.tmp 191) (.tmp 194) 22 31 (.agg #[(.int .u8 0),(.int .i64 0),(.string ⟨#[]⟩),(.int .i64 0),(.int .i64 0)]) 48 rfl Tryd.underlying22 info31 rfl (by decide) (by decide) v13 f (xs.drop q) A2 (xs.length - q) (c - q) (fun _ => True) (fun _ => False) rfl rfl hr13 hxd (fun _ _ h => (kR_open h) ▸ kR_mkM _ _ _ _) (fun _ h => h.elim) (fun _ _ => trivial) hb13 hb13.size (by have:=HFL.out;have:=HLX.out;omega) ?_
              intro v14 w14 hr_ hb_ hg_ hat_
              have hS_ : Below w.heap.size w w14:=HH11.out.trans (SHlower HH11.out.size hb_)
              refine hK.out _ _ hS_ (fun _ => ?_)
              clear hK K hHeld hg_ hat_
              have hHeld:=hS_
              clear hS_
              have hr14:=hr_
              have hb14:=hb_
              clear hr_ hb_ hr13 hb13 hxd
              refine norm_ (a':=?_) ?_ ?_
              rotate_left
              · show Act.put _ (some 195) _ = _
                simp only [Act.put,List.setIfInBounds_toArray,List.set_cons_zero,List.set_cons_succ]
                rfl
              obtain ⟨A14,c14,rfl⟩:=Kd.R_slice hr14
              have hc14:=(R_C hr14).2
              obtain ⟨n14,hn14⟩ : ∃ n,(f ++ xs.drop q).length = n:=⟨_,rfl⟩
              rw [hn14]
              refine one_ (i:=7) (N:=some 196) #[true,true,true,true,true,true,true,true,false,false,false,false,false] rfl rfl (by kernel_rfl) (by decide) (fun K hK => ?_)
              refine goes_ Tryd.func6 (by kernel_rfl) rfl #[.slice A14 n14 c14] (by rfl) rfl rfl (by (try simp only [List.map_toArray,List.map_cons,List.map_nil]);first|done|rfl) ?_
              refine (merge_g hn14 rfl HF2.out (HG.out.below hHeld).kv hc14).mono ?_
              rintro e_ w15 ⟨B15,d15,rfl,hc15,_,hb15⟩
              have hS_ : Below w.heap.size w w15:=hHeld.trans (SHlower hHeld.size hb15)
              have hd15:=Kd.C_below (Kd.C_below hd10 hb14) hb15
              refine ⟨_,rfl,hK.out _ _ hS_ (fun _ => ?_)⟩
              clear hK K hHeld
              have hHeld:=hS_
              clear hS_
              refine norm_ (a':=?_) ?_ ?_
              rotate_left
              · show Act.put _ (some 196) _ = _
                simp only [Act.put,List.setIfInBounds_toArray,List.set_cons_zero,List.set_cons_succ]
                rfl
              refine pure_ (i:=8) (N:=some 188) (v:=?_) (a':=?_) #[true,true,true,true,true,true,true,true,true,false,false,false,false] rfl rfl (by kernel_rfl) (fun _ _ _ h => by cases h.1) (Or.inl ⟨by rfl,?_⟩) ?_ ?_
              rotate_left
              · intro w'
                go_simp
                with_reducible rfl
              rotate_left
              · simp only [Act.put,List.setIfInBounds_toArray,List.set_cons_zero,List.set_cons_succ]
                rfl
              refine pure_ (i:=9) (N:=some 197) (v:=?_) (a':=?_) #[true,true,true,true,true,true,true,true,true,true,false,false,false] rfl rfl (by kernel_rfl) (fun _ _ _ h => by cases h.1) (Or.inl ⟨by rfl,?_⟩) ?_ ?_
              rotate_left
              · intro w'
                go_simp
                with_reducible rfl
              rotate_left
              · simp only [Act.put,List.setIfInBounds_toArray,List.set_cons_zero,List.set_cons_succ]
                rfl
              refine pure_ (i:=10) (N:=some 198) (v:=?_) (a':=?_) #[true,true,true,true,true,true,true,true,true,true,true,false,false] rfl rfl (by kernel_rfl) (fun _ _ _ h => by cases h.1) (Or.inl ⟨by rfl,?_⟩) ?_ ?_
              rotate_left
              · intro w'
                go_simp
                with_reducible rfl
              rotate_left
              · simp only [Act.put,List.setIfInBounds_toArray,List.set_cons_zero,List.set_cons_succ]
                rfl
              refine pure_ (i:=11) (N:=some 14) (v:=?_) (a':=?_) #[true,true,true,true,true,true,true,true,true,true,true,true,false] rfl rfl (by kernel_rfl) (fun _ _ _ h => by cases h.1) (Or.inl ⟨by rfl,?_⟩) ?_ ?_
              rotate_left
              · intro w'
                go_simp
                with_reducible rfl
              rotate_left
              · simp only [Act.put,List.setIfInBounds_toArray,List.set_cons_zero,List.set_cons_succ]
                rfl
              refine pure_ (i:=12) (N:=some 15) (v:=?_) (a':=?_) #[true,true,true,true,true,true,true,true,true,true,true,true,true] rfl rfl (by kernel_rfl) (fun _ _ _ h => by cases h.1) (Or.inl ⟨by rfl,?_⟩) ?_ ?_
              rotate_left
              · intro w'
                go_simp
                with_reducible rfl
              rotate_left
              · simp only [Act.put,List.setIfInBounds_toArray,List.set_cons_zero,List.set_cons_succ]
                rfl
              have HC15:=Aside0.mk hc15
              have HD15:=Aside0.mk hd15
              have HB15:=Aside0.mk hHeld
              clear hc15 hd15 hc10 hx10 hd10 hr14 hb14 hc14 hb15
              refine done_ (by kernel_rfl) ?_
              refine ⟨rfl,?_⟩
              rename_i hKK y1 y2 y3 y4 y5
              refine hKK _ _ ?_
              clear hKK
              go_wp2_with (first|(go_at_call 7;refine (same_calls HC15.out HD15.out).mono ?_;rintro e w16 ⟨rfl,hb16⟩;have HB16:=Aside0.mk (HB15.out.trans (SHlower HB15.out.size hb16));clear hb16)|go_in)
              repeat (go_quiet (fail);try go_wp2)
              go_ret
              exact ⟨rfl,HB16.out⟩
theorem merges_calls {w : World} {A : Option Addr} {c : Nat} {xs : List RW} {k : Int} (hG : GV w) (h : Kd.C kR w A xs.length xs) (hc : xs.length ≤ c) :
    Calls Tryd.prog 3 #[.slice A xs.length c,.int .i64 k] w fun e w' => e = .returned (.bool true) ∧ Below w.heap.size w w':=by
  rcases mergeF_bad xs with ⟨b1,b2⟩|⟨m,hm⟩
  · exact merges_bad hG h b1 b2
  · exact merges_ok hG h hc hm
end Go.Proofs.YtifigmamaakigaaDoor.V

