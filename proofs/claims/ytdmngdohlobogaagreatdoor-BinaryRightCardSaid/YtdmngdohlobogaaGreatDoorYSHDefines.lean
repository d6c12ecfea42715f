import Derived.Test.YtdmngdohlobogaaGreatDoorYSHDefine
namespace Go.Proofs.YtdmngdohlobogaaGreatDoor.Asc
open Go Go.RowKit Go.Proofs.YtdmngdohlobogaaGreatDoorW.PrintWords Go.Proofs.YtdmngdohlobogaaGreatDoorW.PrintLast Go.Proofs.YtdmngdohlobogaaGreatDoorW.PrintMore
set_option linter.unusedVariables false
set_option linter.unusedSimpArgs false
theorem define_len (mx : Int) (by_ : List S40) (l : Int) (m : S40) : (defineF mx by_ l m).2.length = by_.length:=by
 unfold defineF
 split
 ·rfl
 ·split
  ·rfl
  ·simp
theorem define_calls' {g b : Nat} {c : S65} {a : CA} {by_ : List S40} {l : Int} {m : S40} {w0 w : World} {e1 : Int} {by1 : List S40} (hd : defineF c.f0 by_ l m = (e1,by1)) (hL : LK w g b c a by_) (hB : Below w0.heap.size w0 w) (hbb : w0.heap.size ≤ b) (hm0 : 0 ≤ c.f0) (hm1 : c.f0 ≤ 16384) (hn : (by_.length : Int) = c.f0 + 1) :
  Calls Tryz.prog 111 #[.pointer (some ⟨g,0,none⟩),.int .i64 l,.agg #[.int .i64 m.f0,.int .i64 m.f1]] w fun e w' => e = .returned (.int .i64 e1) ∧ LK w' g b c a by1 ∧ Below w0.heap.size w0 w' ∧ KB w w' b:=by
 have:=define_calls g b c a by_ l m w0 w hL hB hbb hm0 hm1 hn
 rw [hd] at this
 exact this
theorem C_int_get {w : World} {k : IntKind} {A : Option Addr} {xs : List Int} (h : Kd.C (Kd.int k) w A xs.length xs) (n : Nat) (hn : n < xs.length) : ∃ ad,A = some ad ∧ w.cell? (ad.add n) = some (.int k xs[n]):=by
 obtain ⟨ad,c,e,_,hK,hc⟩:=Kd.C_get h 0 (n : Int) (by omega) (by omega)
 obtain rfl : c = _:=hK
 refine ⟨ad,e,?_⟩
 have:=hc 0 _ rfl
 simpa [hn,Kd.int,Kd.scalar] using this
theorem C_latch_get {w : World} {A : Option Addr} {xs : List S108} (h : Kd.C k108 w A xs.length xs) (n : Nat) (hn : n < xs.length) : ∃ ad,A = some ad ∧ w.cell? (ad.add (n * 3)) = some (.int .i64 xs[n].f0) ∧ w.cell? ⟨(ad.add (n * 3)).block,(ad.add (n * 3)).off + 1,none⟩ = some (.int .i64 xs[n].f1) ∧ w.cell? ⟨(ad.add (n * 3)).block,(ad.add (n * 3)).off + 2,none⟩ = some (.int .i64 xs[n].f2):=by
 have:=at_T108 h (n : Int) (by omega) (by omega)
 simpa [rd_T108,hn] using this
theorem C_and_get {w : World} {A : Option Addr} {xs : List S125} (h : Kd.C k125 w A xs.length xs) (n : Nat) (hn : n < xs.length) : ∃ ad,A = some ad ∧ w.cell? (ad.add (n * 3)) = some (.int .i64 xs[n].f0) ∧ w.cell? ⟨(ad.add (n * 3)).block,(ad.add (n * 3)).off + 1,none⟩ = some (.int .i64 xs[n].f1) ∧ w.cell? ⟨(ad.add (n * 3)).block,(ad.add (n * 3)).off + 2,none⟩ = some (.int .i64 xs[n].f2):=by
 have:=at_T125 h (n : Int) (by omega) (by omega)
 simpa [rd_T125,hn] using this
def defInputs (mx : Int) : List Int → Nat → List S40 → Int × Int × List S40
 |[],_,by_ => (0,0,by_)
 |l :: ls,i,by_ => if (defineF mx by_ l ⟨1,i⟩).1 = 0 then defInputs mx ls (i + 1) (defineF mx by_ l ⟨1,i⟩).2 else ((i : Int),defineF mx by_ l ⟨1,i⟩)
def defLatches (mx : Int) : List S108 → Nat → List S40 → Int × Int × List S40
 |[],_,by_ => (0,0,by_)
 |x :: ls,i,by_ => if (defineF mx by_ x.f0 ⟨2,i⟩).1 = 0 then (if x.f2 ≠ 0 ∧ x.f2 ≠ 1 ∧ x.f2 ≠ x.f0 then ((i : Int),33,(defineF mx by_ x.f0 ⟨2,i⟩).2) else defLatches mx ls (i + 1) (defineF mx by_ x.f0 ⟨2,i⟩).2) else ((i : Int),defineF mx by_ x.f0 ⟨2,i⟩)
def defAnds (mx : Int) : List S125 → Nat → List S40 → Int × Int × List S40
 |[],_,by_ => (0,0,by_)
 |x :: ls,i,by_ => if (defineF mx by_ x.f0 ⟨3,i⟩).1 = 0 then defAnds mx ls (i + 1) (defineF mx by_ x.f0 ⟨3,i⟩).2 else ((i : Int),defineF mx by_ x.f0 ⟨3,i⟩)
def finish2 (c : S65) (D : Int × Int × List S40) : Int × Int × List S40:=if D.2.1 = 0 then defAnds c.f0 c.f8 0 D.2.2 else D
def finish1 (c : S65) (D : Int × Int × List S40) : Int × Int × List S40:=if D.2.1 = 0 then finish2 c (defLatches c.f0 c.f2 0 D.2.2) else D
def definesF (c : S65) (by_ : List S40) : Int × Int × List S40:=finish1 c (defInputs c.f0 c.f1 0 by_)
set_option maxHeartbeats 4000000 in
set_option maxRecDepth 100000 in
theorem defines_calls (g b : Nat) (c : S65) (a : CA) (by_ : List S40) (w0 w : World) (r1 r2 : Int) (by9 : List S40) (hR : definesF c by_ = (r1,r2,by9)) (hC : CR w c a) (hL : LK w g b c a by_) (hB : Below w0.heap.size w0 w) (hbb : w0.heap.size ≤ b) (hgb : w0.heap.size ≤ g) (hC0 : CR w0 c a) (hm0 : 0 ≤ c.f0) (hm1 : c.f0 ≤ 16384) (hn : (by_.length : Int) = c.f0 + 1) (hl1 : c.f1.length ≤ 16384) (hl2 : c.f2.length ≤ 16384) (hl8 : c.f8.length ≤ 16384) :
  Calls Tryz.prog 85 #[.pointer (some ⟨g,0,none⟩)] w fun e w' => e = .returned (.tuple #[.int .i64 r1,.int .i64 r2]) ∧ LK w' g b c a by9 ∧ Below w0.heap.size w0 w':=by
 obtain ⟨A1,A2,A3,A4,A5,A6,A7,A8,A9,A10,c1,c2,c3,c4,c5,c6,c7,c8,c9,c10⟩:=a
 have hu150:=Tryz.underlying127
 have hu65:=Tryz.underlying29
 have hu169:=Tryz.underlying154
 have hu108:=Tryz.underlying61
 have hu125:=Tryz.underlying75
 have f1 : w.cell? ⟨g,1,none⟩ = some (.slice A1 c.f1.length c1):=(hL.cell 1).trans rfl
 have HC0:=A0_.mk hC0
 have HL:=A0_.mk hL
 have HB:=A0_.mk hB
 have HR:=A0_.mk hR
 have HN:=A0_.mk hn
 have HM0:=A0_.mk hm0
 have HM1:=A0_.mk hm1
 have HL1:=A0_.mk hl1
 have HL2:=A0_.mk hl2
 have HL8:=A0_.mk hl8
 clear hC0 hC hL hB hR hn hm0 hm1 hl1 hl2 hl8
 go_enter Tryz.func85,Tryz.ntmps85
 go_wp2
 repeat (go_quiet (fail);try go_wp2)
 (try simp only [Act.put,sA_,sB_,sC_])
 go_loopg [19] (c.f1.length + 1) (fun kq v w' => ∃ (n : Nat) (by1 : List S40),v = .int .i64 n ∧ A0_ (n + kq = c.f1.length + 1) ∧ A0_ (n ≤ c.f1.length) ∧ A0_ (finish1 c (defInputs c.f0 (c.f1.drop n) n by1) = (r1,r2,by9)) ∧ A0_ ((by1.length : Int) = c.f0 + 1) ∧ A0_ (LK w' g b c ⟨A1,A2,A3,A4,A5,A6,A7,A8,A9,A10,c1,c2,c3,c4,c5,c6,c7,c8,c9,c10⟩ by1) ∧ A0_ (Below w0.heap.size w0 w'))
 case atStart => exact ⟨0,_,rfl,⟨by omega⟩,⟨Nat.zero_le _⟩,⟨by rw [List.drop_zero];exact HR.out⟩,HN,HL,HB⟩
 case round =>
  clear HL HB HR HN
  obtain ⟨n,by1,rfl,HK,HNL,HR,HN,HL,HB⟩:=hrel
  cases gk with
  |zero =>
   have h1:=HK.out
   have h2:=HNL.out
   omega
  |succ k1 =>
   by_cases cn : n < c.f1.length
   ·have cnb : decide ((n : Int) < (c.f1.length : Int)) = true:=decide_eq_true (by omega)
    have p0 : (0 ≤ (n : Int)) = True:=eq_true (by omega)
    have p1 : ((n : Int) < (c.f1.length : Int)) = True:=eq_true (by omega)
    have hw1 : IntKind.i64.wrap ((n : Int) + 1) = ((n + 1 : Nat) : Int):=by have:=HL1.out;rw [IntKind.wrap_i64];omega
    obtain ⟨ad,ea,hx⟩:=C_int_get (HC0.out.below HB.out).r1 n cn
    cases ea
    have hdrop : c.f1.drop n = c.f1[n] :: c.f1.drop (n + 1):=List.drop_eq_getElem_cons cn
    have hr:=HR.out
    rw [hdrop,defInputs] at hr
    clear HR hdrop
    generalize c.f1[n] = x at hr hx ⊢
    obtain ⟨⟨e1,by2⟩,hd⟩ : ∃ q,defineF c.f0 by1 x ⟨1,(n : Int)⟩ = q:=⟨_,rfl⟩
    rw [hd] at hr
    dsimp only at hr
    have hlen : (by2.length : Int) = c.f0 + 1:=by
     have h1:=define_len c.f0 by1 x ⟨1,(n : Int)⟩
     rw [hd] at h1
     have:=HN.out
     simp only at h1
     omega
    have HD:=A0_.mk hd
    have HLN:=A0_.mk hlen
    clear hd hlen
    have HL9:=HL
    have HB9:=HB
    by_cases ce : e1 = 0
    ·rw [if_pos ce] at hr
     subst ce
     have HR:=A0_.mk hr
     clear hr
     go_wp2_with (first|((with_reducible refine gate_callee (f:=111) rfl ?_);refine goesL_ (some 28) rfl rfl Tryz.func111 (by kernel_rfl) rfl #[.pointer (some ⟨g,0,none⟩),.int .i64 x,.agg #[.int .i64 1,.int .i64 (n : Int)]] rfl (by (try simp only [List.map_toArray,List.map_cons,List.map_nil]);first|done|rfl) ?_;(with_reducible refine (define_calls' HD.out HL9.out HB9.out hbb HM0.out HM1.out HN.out).mono ?_);rintro e w2 ⟨rfl,hL2,hB2,hK2⟩;refine ⟨_,rfl,?_⟩;clear hK2;have HLn:=A0_.mk hL2;have HBn:=A0_.mk hB2;clear hL2 hB2 HL HB;have HL:=HLn;have HB:=HBn;clear HLn HBn)|go_in)
     repeat (go_quiet (fail);try go_wp2)
     go_roundg k1
     case measure => omega
     case rel => exact ⟨n + 1,by2,rfl,⟨by have:=HK.out;omega⟩,⟨by omega⟩,HR,HLN,HL,HB⟩
    ·rw [if_neg ce,finish1,if_neg ce] at hr
     simp only [Prod.mk.injEq] at hr
     obtain ⟨rfl,rfl,rfl⟩:=hr
     have ceb : (e1 == 0) = false:=beq_eq_false_iff_ne.mpr ce
     go_wp2_with (first|((with_reducible refine gate_callee (f:=111) rfl ?_);refine goesL_ (some 28) rfl rfl Tryz.func111 (by kernel_rfl) rfl #[.pointer (some ⟨g,0,none⟩),.int .i64 x,.agg #[.int .i64 1,.int .i64 (n : Int)]] rfl (by (try simp only [List.map_toArray,List.map_cons,List.map_nil]);first|done|rfl) ?_;(with_reducible refine (define_calls' HD.out HL9.out HB9.out hbb HM0.out HM1.out HN.out).mono ?_);rintro e w2 ⟨rfl,hL2,hB2,hK2⟩;refine ⟨_,rfl,?_⟩;clear hK2;have HLn:=A0_.mk hL2;have HBn:=A0_.mk hB2;clear hL2 hB2 HL HB;have HL:=HLn;have HB:=HBn;clear HLn HBn)|go_in)
     repeat (go_quiet (fail);try go_wp2)
     refine bodyPost_ret (results_tmp2 rfl _ _ _) rfl ?_
     exact ⟨rfl,HL.out,HB.out⟩
   ·have cnb : decide ((n : Int) < (c.f1.length : Int)) = false:=decide_eq_false (by omega)
    have hn9 : n = c.f1.length:=by have:=HNL.out;omega
    have hr:=HR.out
    rw [hn9,List.drop_length,defInputs,finish1,if_pos rfl] at hr
    clear HR
    have HR:=A0_.mk hr
    clear hr
    have f2 : wr.cell? ⟨g,2,none⟩ = some (.slice A2 c.f2.length c2):=(HL.out.cell 2).trans rfl
    go_wp2
    repeat (go_quiet (fail);try go_wp2)
    (try simp only [Act.put,sA_,sB_,sC_])
    go_loopg [40] (c.f2.length + 1) (fun kq v w' => ∃ (n : Nat) (by1 : List S40),v = .int .i64 n ∧ A0_ (n + kq = c.f2.length + 1) ∧ A0_ (n ≤ c.f2.length) ∧ A0_ (finish2 c (defLatches c.f0 (c.f2.drop n) n by1) = (r1,r2,by9)) ∧ A0_ ((by1.length : Int) = c.f0 + 1) ∧ A0_ (LK w' g b c ⟨A1,A2,A3,A4,A5,A6,A7,A8,A9,A10,c1,c2,c3,c4,c5,c6,c7,c8,c9,c10⟩ by1) ∧ A0_ (Below w0.heap.size w0 w'))
    case atStart => exact ⟨0,_,rfl,⟨by omega⟩,⟨Nat.zero_le _⟩,⟨by rw [List.drop_zero];exact HR.out⟩,HN,HL,HB⟩
    case round =>
     clear HL HB HR HN
     obtain ⟨n,by1,rfl,HK,HNL,HR,HN,HL,HB⟩:=hrel
     cases gk with
     |zero =>
      have h1:=HK.out
      have h2:=HNL.out
      omega
     |succ k1 =>
      by_cases cn : n < c.f2.length
      ·have cnb : decide ((n : Int) < (c.f2.length : Int)) = true:=decide_eq_true (by omega)
       have p0 : (0 ≤ (n : Int)) = True:=eq_true (by omega)
       have p1 : ((n : Int) < (c.f2.length : Int)) = True:=eq_true (by omega)
       have hw1 : IntKind.i64.wrap ((n : Int) + 1) = ((n + 1 : Nat) : Int):=by have:=HL2.out;rw [IntKind.wrap_i64];omega
       obtain ⟨ad,ea,hx0,hx1,hx2⟩:=C_latch_get (HC0.out.below HB.out).r2 n cn
       cases ea
       have hdrop : c.f2.drop n = c.f2[n] :: c.f2.drop (n + 1):=List.drop_eq_getElem_cons cn
       have hr:=HR.out
       rw [hdrop,defLatches] at hr
       clear HR hdrop
       generalize c.f2[n] = x at hr hx0 hx1 hx2 ⊢
       obtain ⟨x0,x1,x2⟩:=x
       dsimp only at hr hx0 hx1 hx2
       obtain ⟨⟨e1,by2⟩,hd⟩ : ∃ q,defineF c.f0 by1 x0 ⟨2,(n : Int)⟩ = q:=⟨_,rfl⟩
       rw [hd] at hr
       dsimp only at hr
       have hlen : (by2.length : Int) = c.f0 + 1:=by
        have h1:=define_len c.f0 by1 x0 ⟨2,(n : Int)⟩
        rw [hd] at h1
        have:=HN.out
        simp only at h1
        omega
       have HD:=A0_.mk hd
       have HLN:=A0_.mk hlen
       clear hd hlen
       have HL9 : A0_ (LK (wr.alloc (.cells #[.int .i64 x0,.int .i64 x1,.int .i64 x2] 61)) g b c ⟨A1,some ad,A3,A4,A5,A6,A7,A8,A9,A10,c1,c2,c3,c4,c5,c6,c7,c8,c9,c10⟩ by1):=⟨HL.out.below (eA_ (Below.refl _ _) _)⟩
       have HB9 : A0_ (Below w0.heap.size w0 (wr.alloc (.cells #[.int .i64 x0,.int .i64 x1,.int .i64 x2] 61))):=⟨eA_ HB.out _⟩
       have HBL : A0_ (b < wr.heap.size):=⟨HL.out.row.lt⟩
       clear HL HB
       by_cases ce : e1 = 0
       ·rw [if_pos ce] at hr
        subst ce
        by_cases z0 : x2 = 0
        ·rw [if_neg (fun h => h.1 z0)] at hr
         subst z0
         have HR:=A0_.mk hr
         clear hr
         go_wp2_with (first|((with_reducible refine gate_callee (f:=111) rfl ?_);refine goesL_ (some 50) rfl rfl Tryz.func111 (by kernel_rfl) rfl #[.pointer (some ⟨g,0,none⟩),.int .i64 x0,.agg #[.int .i64 2,.int .i64 (n : Int)]] rfl (by (try simp only [List.map_toArray,List.map_cons,List.map_nil]);first|done|rfl) ?_;(with_reducible refine (define_calls' HD.out HL9.out HB9.out hbb HM0.out HM1.out HN.out).mono ?_);rintro e w2 ⟨rfl,hL2,hB2,hK2⟩;refine ⟨_,rfl,?_⟩;have hx8 : w2.heap[wr.heap.size]? = some (.cells #[.int .i64 x0,.int .i64 x1,.int .i64 0] 61 (0,0)):=(hK2.2 _ (by simp) (Nat.ne_of_gt HBL.out)).trans (blk_new wr _);have y0 : w2.cell? ⟨wr.heap.size,0,none⟩ = some (.int .i64 x0):=(bC_ hx8 0).trans rfl;have y2 : w2.cell? ⟨wr.heap.size,2,none⟩ = some (.int .i64 0):=(bC_ hx8 2).trans rfl;have HLn:=A0_.mk hL2;have HBn:=A0_.mk hB2;clear hL2 hB2 hK2 hx8 HL9 HB9;have HL9:=HLn;have HB9:=HBn;clear HLn HBn)|go_in)
         repeat (go_quiet (fail);try go_wp2)
         go_roundg k1
         case measure => omega
         case rel => exact ⟨n + 1,by2,rfl,⟨by have:=HK.out;omega⟩,⟨by omega⟩,HR,HLN,HL9,HB9⟩
        ·have z0b : (x2 == 0) = false:=beq_eq_false_iff_ne.mpr z0
         by_cases z1 : x2 = 1
         ·rw [if_neg (fun h => h.2.1 z1)] at hr
          subst z1
          clear z0 z0b
          have HR:=A0_.mk hr
          clear hr
          go_wp2_with (first|((with_reducible refine gate_callee (f:=111) rfl ?_);refine goesL_ (some 50) rfl rfl Tryz.func111 (by kernel_rfl) rfl #[.pointer (some ⟨g,0,none⟩),.int .i64 x0,.agg #[.int .i64 2,.int .i64 (n : Int)]] rfl (by (try simp only [List.map_toArray,List.map_cons,List.map_nil]);first|done|rfl) ?_;(with_reducible refine (define_calls' HD.out HL9.out HB9.out hbb HM0.out HM1.out HN.out).mono ?_);rintro e w2 ⟨rfl,hL2,hB2,hK2⟩;refine ⟨_,rfl,?_⟩;have hx8 : w2.heap[wr.heap.size]? = some (.cells #[.int .i64 x0,.int .i64 x1,.int .i64 1] 61 (0,0)):=(hK2.2 _ (by simp) (Nat.ne_of_gt HBL.out)).trans (blk_new wr _);have y0 : w2.cell? ⟨wr.heap.size,0,none⟩ = some (.int .i64 x0):=(bC_ hx8 0).trans rfl;have y2 : w2.cell? ⟨wr.heap.size,2,none⟩ = some (.int .i64 1):=(bC_ hx8 2).trans rfl;have HLn:=A0_.mk hL2;have HBn:=A0_.mk hB2;clear hL2 hB2 hK2 hx8 HL9 HB9;have HL9:=HLn;have HB9:=HBn;clear HLn HBn)|go_in)
          repeat (go_quiet (fail);try go_wp2)
          go_roundg k1
          case measure => omega
          case rel => exact ⟨n + 1,by2,rfl,⟨by have:=HK.out;omega⟩,⟨by omega⟩,HR,HLN,HL9,HB9⟩
         ·have z1b : (x2 == 1) = false:=beq_eq_false_iff_ne.mpr z1
          by_cases z2 : x2 = x0
          ·rw [if_neg (fun h => h.2.2 z2)] at hr
           subst z2
           have HR:=A0_.mk hr
           clear hr
           go_wp2_with (first|((with_reducible refine gate_callee (f:=111) rfl ?_);refine goesL_ (some 50) rfl rfl Tryz.func111 (by kernel_rfl) rfl #[.pointer (some ⟨g,0,none⟩),.int .i64 x2,.agg #[.int .i64 2,.int .i64 (n : Int)]] rfl (by (try simp only [List.map_toArray,List.map_cons,List.map_nil]);first|done|rfl) ?_;(with_reducible refine (define_calls' HD.out HL9.out HB9.out hbb HM0.out HM1.out HN.out).mono ?_);rintro e w2 ⟨rfl,hL2,hB2,hK2⟩;refine ⟨_,rfl,?_⟩;have hx8 : w2.heap[wr.heap.size]? = some (.cells #[.int .i64 x2,.int .i64 x1,.int .i64 x2] 61 (0,0)):=(hK2.2 _ (by simp) (Nat.ne_of_gt HBL.out)).trans (blk_new wr _);have y0 : w2.cell? ⟨wr.heap.size,0,none⟩ = some (.int .i64 x2):=(bC_ hx8 0).trans rfl;have y2 : w2.cell? ⟨wr.heap.size,2,none⟩ = some (.int .i64 x2):=(bC_ hx8 2).trans rfl;have HLn:=A0_.mk hL2;have HBn:=A0_.mk hB2;clear hL2 hB2 hK2 hx8 HL9 HB9;have HL9:=HLn;have HB9:=HBn;clear HLn HBn)|go_in)
           repeat (go_quiet (fail);try go_wp2)
           go_roundg k1
           case measure => omega
           case rel => exact ⟨n + 1,by2,rfl,⟨by have:=HK.out;omega⟩,⟨by omega⟩,HR,HLN,HL9,HB9⟩
          ·rw [if_pos ⟨z0,z1,z2⟩,finish2,if_neg (show ¬ ((33 : Int) = 0) by decide)] at hr
           simp only [Prod.mk.injEq] at hr
           obtain ⟨rfl,rfl,rfl⟩:=hr
           have z2b : (x2 == x0) = false:=beq_eq_false_iff_ne.mpr z2
           have z2c : (x0 == x2) = false:=beq_eq_false_iff_ne.mpr (Ne.symm z2)
           go_wp2_with (first|((with_reducible refine gate_callee (f:=111) rfl ?_);refine goesL_ (some 50) rfl rfl Tryz.func111 (by kernel_rfl) rfl #[.pointer (some ⟨g,0,none⟩),.int .i64 x0,.agg #[.int .i64 2,.int .i64 (n : Int)]] rfl (by (try simp only [List.map_toArray,List.map_cons,List.map_nil]);first|done|rfl) ?_;(with_reducible refine (define_calls' HD.out HL9.out HB9.out hbb HM0.out HM1.out HN.out).mono ?_);rintro e w2 ⟨rfl,hL2,hB2,hK2⟩;refine ⟨_,rfl,?_⟩;have hx8 : w2.heap[wr.heap.size]? = some (.cells #[.int .i64 x0,.int .i64 x1,.int .i64 x2] 61 (0,0)):=(hK2.2 _ (by simp) (Nat.ne_of_gt HBL.out)).trans (blk_new wr _);have y0 : w2.cell? ⟨wr.heap.size,0,none⟩ = some (.int .i64 x0):=(bC_ hx8 0).trans rfl;have y2 : w2.cell? ⟨wr.heap.size,2,none⟩ = some (.int .i64 x2):=(bC_ hx8 2).trans rfl;have HLn:=A0_.mk hL2;have HBn:=A0_.mk hB2;clear hL2 hB2 hK2 hx8 HL9 HB9;have HL9:=HLn;have HB9:=HBn;clear HLn HBn)|go_in)
           repeat (go_quiet (fail);try go_wp2)
           all_goals first|exact bodyPost_ret (results_tmp2 rfl _ _ _) rfl ⟨rfl,HL9.out,HB9.out⟩|(exfalso;simp_all;done)|(exfalso;omega)
       ·rw [if_neg ce,finish2,if_neg ce] at hr
        simp only [id,Prod.mk.injEq] at hr
        obtain ⟨rfl,rfl,rfl⟩:=hr
        have ceb : (e1 == 0) = false:=beq_eq_false_iff_ne.mpr ce
        go_wp2_with (first|((with_reducible refine gate_callee (f:=111) rfl ?_);refine goesL_ (some 50) rfl rfl Tryz.func111 (by kernel_rfl) rfl #[.pointer (some ⟨g,0,none⟩),.int .i64 x0,.agg #[.int .i64 2,.int .i64 (n : Int)]] rfl (by (try simp only [List.map_toArray,List.map_cons,List.map_nil]);first|done|rfl) ?_;(with_reducible refine (define_calls' HD.out HL9.out HB9.out hbb HM0.out HM1.out HN.out).mono ?_);rintro e w2 ⟨rfl,hL2,hB2,hK2⟩;refine ⟨_,rfl,?_⟩;have hx8 : w2.heap[wr.heap.size]? = some (.cells #[.int .i64 x0,.int .i64 x1,.int .i64 x2] 61 (0,0)):=(hK2.2 _ (by simp) (Nat.ne_of_gt HBL.out)).trans (blk_new wr _);have y0 : w2.cell? ⟨wr.heap.size,0,none⟩ = some (.int .i64 x0):=(bC_ hx8 0).trans rfl;have y2 : w2.cell? ⟨wr.heap.size,2,none⟩ = some (.int .i64 x2):=(bC_ hx8 2).trans rfl;have HLn:=A0_.mk hL2;have HBn:=A0_.mk hB2;clear hL2 hB2 hK2 hx8 HL9 HB9;have HL9:=HLn;have HB9:=HBn;clear HLn HBn)|go_in)
        repeat (go_quiet (fail);try go_wp2)
        refine bodyPost_ret (results_tmp2 rfl _ _ _) rfl ?_
        exact ⟨rfl,HL9.out,HB9.out⟩
      ·have cnb : decide ((n : Int) < (c.f2.length : Int)) = false:=decide_eq_false (by omega)
       have hn9 : n = c.f2.length:=by have:=HNL.out;omega
       have hr:=HR.out
       rw [hn9,List.drop_length,defLatches,finish2,if_pos rfl] at hr
       clear HR
       have HR:=A0_.mk hr
       clear hr
       have f8 : wr.cell? ⟨g,8,none⟩ = some (.slice A8 c.f8.length c8):=(HL.out.cell 8).trans rfl
       go_wp2
       repeat (go_quiet (fail);try go_wp2)
       (try simp only [Act.put,sA_,sB_,sC_])
       go_loopg [78] (c.f8.length + 1) (fun kq v w' => ∃ (n : Nat) (by1 : List S40),v = .int .i64 n ∧ A0_ (n + kq = c.f8.length + 1) ∧ A0_ (n ≤ c.f8.length) ∧ A0_ (id (defAnds c.f0 (c.f8.drop n) n by1) = (r1,r2,by9)) ∧ A0_ ((by1.length : Int) = c.f0 + 1) ∧ A0_ (LK w' g b c ⟨A1,A2,A3,A4,A5,A6,A7,A8,A9,A10,c1,c2,c3,c4,c5,c6,c7,c8,c9,c10⟩ by1) ∧ A0_ (Below w0.heap.size w0 w'))
       case atStart => exact ⟨0,_,rfl,⟨by omega⟩,⟨Nat.zero_le _⟩,⟨by rw [List.drop_zero];exact HR.out⟩,HN,HL,HB⟩
       case round =>
        clear HL HB HR HN
        obtain ⟨n,by1,rfl,HK,HNL,HR,HN,HL,HB⟩:=hrel
        cases gk with
        |zero =>
         have h1:=HK.out
         have h2:=HNL.out
         omega
        |succ k1 =>
         by_cases cn : n < c.f8.length
         ·have cnb : decide ((n : Int) < (c.f8.length : Int)) = true:=decide_eq_true (by omega)
          have p0 : (0 ≤ (n : Int)) = True:=eq_true (by omega)
          have p1 : ((n : Int) < (c.f8.length : Int)) = True:=eq_true (by omega)
          have hw1 : IntKind.i64.wrap ((n : Int) + 1) = ((n + 1 : Nat) : Int):=by have:=HL8.out;rw [IntKind.wrap_i64];omega
          obtain ⟨ad,ea,hx0,hx1,hx2⟩:=C_and_get (HC0.out.below HB.out).r8 n cn
          cases ea
          have hdrop : c.f8.drop n = c.f8[n] :: c.f8.drop (n + 1):=List.drop_eq_getElem_cons cn
          have hr:=HR.out
          rw [hdrop,defAnds] at hr
          clear HR hdrop
          generalize c.f8[n] = x at hr hx0 hx1 hx2 ⊢
          obtain ⟨x0,x1,x2⟩:=x
          dsimp only at hr hx0 hx1 hx2
          obtain ⟨⟨e1,by2⟩,hd⟩ : ∃ q,defineF c.f0 by1 x0 ⟨3,(n : Int)⟩ = q:=⟨_,rfl⟩
          rw [hd] at hr
          dsimp only at hr
          have hlen : (by2.length : Int) = c.f0 + 1:=by
           have h1:=define_len c.f0 by1 x0 ⟨3,(n : Int)⟩
           rw [hd] at h1
           have:=HN.out
           simp only at h1
           omega
          have HD:=A0_.mk hd
          have HLN:=A0_.mk hlen
          clear hd hlen
          have HL9 : A0_ (LK (wr.alloc (.cells #[.int .i64 x0,.int .i64 x1,.int .i64 x2] 75)) g b c ⟨A1,A2,A3,A4,A5,A6,A7,some ad,A9,A10,c1,c2,c3,c4,c5,c6,c7,c8,c9,c10⟩ by1):=⟨HL.out.below (eA_ (Below.refl _ _) _)⟩
          have HB9 : A0_ (Below w0.heap.size w0 (wr.alloc (.cells #[.int .i64 x0,.int .i64 x1,.int .i64 x2] 75))):=⟨eA_ HB.out _⟩
          have HBL : A0_ (b < wr.heap.size):=⟨HL.out.row.lt⟩
          clear HL HB
          by_cases ce : e1 = 0
          ·rw [if_pos ce] at hr
           subst ce
           have HR:=A0_.mk hr
           clear hr
           go_wp2_with (first|((with_reducible refine gate_callee (f:=111) rfl ?_);refine goesL_ (some 88) rfl rfl Tryz.func111 (by kernel_rfl) rfl #[.pointer (some ⟨g,0,none⟩),.int .i64 x0,.agg #[.int .i64 3,.int .i64 (n : Int)]] rfl (by (try simp only [List.map_toArray,List.map_cons,List.map_nil]);first|done|rfl) ?_;(with_reducible refine (define_calls' HD.out HL9.out HB9.out hbb HM0.out HM1.out HN.out).mono ?_);rintro e w2 ⟨rfl,hL2,hB2,hK2⟩;refine ⟨_,rfl,?_⟩;have hx8 : w2.heap[wr.heap.size]? = some (.cells #[.int .i64 x0,.int .i64 x1,.int .i64 x2] 75 (0,0)):=(hK2.2 _ (by simp) (Nat.ne_of_gt HBL.out)).trans (blk_new wr _);have y0 : w2.cell? ⟨wr.heap.size,0,none⟩ = some (.int .i64 x0):=(bC_ hx8 0).trans rfl;have y2 : w2.cell? ⟨wr.heap.size,2,none⟩ = some (.int .i64 x2):=(bC_ hx8 2).trans rfl;have HLn:=A0_.mk hL2;have HBn:=A0_.mk hB2;clear hL2 hB2 hK2 hx8 HL9 HB9;have HL9:=HLn;have HB9:=HBn;clear HLn HBn)|go_in)
           repeat (go_quiet (fail);try go_wp2)
           go_roundg k1
           case measure => omega
           case rel => exact ⟨n + 1,by2,rfl,⟨by have:=HK.out;omega⟩,⟨by omega⟩,HR,HLN,HL9,HB9⟩
          ·rw [if_neg ce] at hr
           simp only [id,Prod.mk.injEq] at hr
           obtain ⟨rfl,rfl,rfl⟩:=hr
           have ceb : (e1 == 0) = false:=beq_eq_false_iff_ne.mpr ce
           go_wp2_with (first|((with_reducible refine gate_callee (f:=111) rfl ?_);refine goesL_ (some 88) rfl rfl Tryz.func111 (by kernel_rfl) rfl #[.pointer (some ⟨g,0,none⟩),.int .i64 x0,.agg #[.int .i64 3,.int .i64 (n : Int)]] rfl (by (try simp only [List.map_toArray,List.map_cons,List.map_nil]);first|done|rfl) ?_;(with_reducible refine (define_calls' HD.out HL9.out HB9.out hbb HM0.out HM1.out HN.out).mono ?_);rintro e w2 ⟨rfl,hL2,hB2,hK2⟩;refine ⟨_,rfl,?_⟩;have hx8 : w2.heap[wr.heap.size]? = some (.cells #[.int .i64 x0,.int .i64 x1,.int .i64 x2] 75 (0,0)):=(hK2.2 _ (by simp) (Nat.ne_of_gt HBL.out)).trans (blk_new wr _);have y0 : w2.cell? ⟨wr.heap.size,0,none⟩ = some (.int .i64 x0):=(bC_ hx8 0).trans rfl;have y2 : w2.cell? ⟨wr.heap.size,2,none⟩ = some (.int .i64 x2):=(bC_ hx8 2).trans rfl;have HLn:=A0_.mk hL2;have HBn:=A0_.mk hB2;clear hL2 hB2 hK2 hx8 HL9 HB9;have HL9:=HLn;have HB9:=HBn;clear HLn HBn)|go_in)
           repeat (go_quiet (fail);try go_wp2)
           refine bodyPost_ret (results_tmp2 rfl _ _ _) rfl ?_
           exact ⟨rfl,HL9.out,HB9.out⟩
         ·have cnb : decide ((n : Int) < (c.f8.length : Int)) = false:=decide_eq_false (by omega)
          have hn9 : n = c.f8.length:=by have:=HNL.out;omega
          have hr:=HR.out
          rw [hn9,List.drop_length,defAnds] at hr
          simp only [id,Prod.mk.injEq] at hr
          obtain ⟨rfl,rfl,rfl⟩:=hr
          go_wp2
          repeat (go_quiet (fail);try go_wp2)
          refine bodyPost_ret (results_tmp2 rfl _ _ _) rfl ?_
          exact ⟨rfl,HL.out,HB.out⟩
end Go.Proofs.YtdmngdohlobogaaGreatDoor.Asc

