import Derived.Test.YtojepjkpnponoaaDoorTM35
import Derived.Test.YtojepjkpnponoaaDoorTAReadW
section
namespace Go.Proofs.YtojepjkpnponoaaDoor.Asc
open Go Go.RowKit Go.Proofs.YtojepjkpnponoaaDoorW.PrintWords
set_option linter.unusedVariables false
set_option linter.unusedSimpArgs false
def lineR (s : ByteArray) (p : Nat) : ByteArray × Int × Bool :=
  match lineF s p with
  | none => ((⟨#[]⟩ : ByteArray),(p : Int),false)
  | some (l,q) => (l,(q : Int),true)
theorem sub_get (s : ByteArray) (p j : Nat) : (s.extract p s.size).data.toList[j]? = s.data.toList[p + j]?:=by
  rw [Stim.extract_list,List.take_of_length_le (by rw [List.length_drop,data_length];omega),List.getElem?_drop]
theorem sub_len (s : ByteArray) (p : Nat) : (s.extract p s.size).data.toList.length = s.size - p:=by
  rw [Stim.extract_list,List.take_of_length_le (by rw [List.length_drop,data_length];omega),List.length_drop,data_length]
theorem line_some_loop (s : ByteArray) (hs : s.size ≤ 262144) (p o : Nat) (ho : Lib.indexByte (s.extract p s.size).data.toList 10 = o) (m : Nat) : ∀ i,p ≤ i → i + m = p + o →
    Ev (fun k => trestleref04_Line.l0 k s (p : Int) (i : Int)) (s.extract p (p + o),((p + o + 1 : Nat) : Int),true):=by
  obtain ⟨h10,hno⟩:=Lib.indexByte_some ho
  have hol : p + o < s.size:=by
    have:=(List.getElem?_eq_some_iff.1 h10).1
    rw [sub_len] at this
    omega
  rw [sub_get] at h10
  induction m with
  | zero =>
    intro i h1 h2
    obtain rfl : i = p + o:=by omega
    refine Ev.succ (fun k => ?_) (Ev.const _)
    unfold trestleref04_Line.l0
    have hb : bt s ((p + o : Nat) : Int) = 10:=bt_some h10
    rw [hb,if_pos (by omega),if_pos (by omega),if_pos rfl,if_pos (by omega),if_pos (by omega),if_pos (by omega),IntWalk.wrap64_in _ (by omega)]
    rfl
  | succ m ih =>
    intro i h1 h2
    refine Ev.succ (fun k => ?_) (ih (i + 1) (by omega) (by omega))
    conv => lhs;unfold trestleref04_Line.l0
    have hb : ¬ bt s (i : Int) = 10:=fun h => by
      have h3:=(bt_ten (c:=10) (by omega)).1 h
      have h4:=hno (i - p) (by omega)
      rw [sub_get,show p + (i - p) = i by omega] at h4
      exact h4 h3
    rw [if_pos (by omega),if_pos (by omega),if_neg hb,IntWalk.wrap64_in _ (by omega)]
    rfl
theorem line_none_loop (s : ByteArray) (hs : s.size ≤ 262144) (p : Nat) (ho : Lib.indexByte (s.extract p s.size).data.toList 10 = -1) (m : Nat) : ∀ i,p ≤ i → i + m = s.size →
    Ev (fun k => trestleref04_Line.l0 k s (p : Int) (i : Int)) ((⟨#[]⟩ : ByteArray),(p : Int),false):=by
  have hno:=Lib.indexByte_none ho
  induction m with
  | zero =>
    intro i h1 h2
    refine Ev.succ (fun k => ?_) (Ev.const _)
    unfold trestleref04_Line.l0
    rw [if_neg (by omega)]
  | succ m ih =>
    intro i h1 h2
    refine Ev.succ (fun k => ?_) (ih (i + 1) (by omega) (by omega))
    conv => lhs;unfold trestleref04_Line.l0
    have hb : ¬ bt s (i : Int) = 10:=fun h => by
      have h3:=(bt_ten (c:=10) (by omega)).1 h
      have h4:=hno (i - p)
      rw [sub_get,show p + (i - p) = i by omega] at h4
      exact h4 h3
    rw [if_pos (by omega),if_pos (by omega),if_neg hb,IntWalk.wrap64_in _ (by omega)]
    rfl
theorem line_ev (s : ByteArray) (hs : s.size ≤ 262144) (p : Nat) (hp : p ≤ s.size) : Ev (fun k => trestleref04_Line.f k s (p : Int)) (lineR s p):=by
  have hge:=Lib.indexByte_ge (s.extract p s.size).data.toList 10
  unfold lineR lineF trestleref04_Line.f
  by_cases h : Lib.indexByte (s.extract p s.size).data.toList 10 < 0
  · rw [if_pos h]
    exact line_none_loop s hs p (by omega) (s.size - p) p (Nat.le_refl _) (by omega)
  · rw [if_neg h]
    obtain ⟨o,ho⟩ : ∃ o : Nat,Lib.indexByte (s.extract p s.size).data.toList 10 = o:=⟨_,(Int.toNat_of_nonneg (by omega)).symm⟩
    rw [ho]
    exact line_some_loop s hs p o ho o p (Nat.le_refl _) rfl
theorem lineF_bounds {s : ByteArray} {p : Nat} {l : ByteArray} {q : Nat} (h : lineF s p = some (l,q)) : p < q ∧ q ≤ s.size ∧ l.size ≤ s.size:=by
  unfold lineF at h
  split at h
  · cases h
  · have hl:=Stim.indexByte_lt (s.extract p s.size).data.toList 10
    rw [sub_len] at hl
    injection h with h
    injection h with h1 h2
    subst h1
    refine ⟨by omega,by omega,?_⟩
    rw [← data_length,Stim.extract_list,List.length_take,List.length_drop,data_length]
    omega
theorem eqB {a b : ByteArray} : a.toList = b.toList ↔ a = b:=by
  rw [Lib.toList_data,Lib.toList_data]
  constructor
  · intro h
    have:=Stim.bytesA_data a
    rw [h,Stim.bytesA_data] at this
    exact this.symm
  · intro h
    rw [h]
def endT (a : List S59) (b : List ByteArray) : Except Nat (List S59 × List ByteArray) → List S59 × List ByteArray × Int × Int
  | .error e => ([],[],(e : Int),42)
  | .ok (x,y) => (a ++ x,b ++ y,0,0)
theorem endT_S (a : List S59) (b : List ByteArray) (x : S59) (r : Except Nat (List S59 × List ByteArray)) : endT a b (consS x r) = endT (a ++ [x]) b r:=by
  cases r with
  | error e => rfl
  | ok y => simp [endT,consS]
theorem endT_C (a : List S59) (b : List ByteArray) (x : ByteArray) (r : Except Nat (List S59 × List ByteArray)) : endT a b (consC x r) = endT a (b ++ [x]) r:=by
  cases r with
  | error e => rfl
  | ok y => simp [endT,consC]
theorem tail_loop (s : ByteArray) (hs : s.size ≤ 262144) (m : Nat) : ∀ (p : Nat) (a : List S59) (b : List ByteArray) (noted : Bool),p ≤ s.size → s.size < p + m → a.length ≤ p → b.length ≤ p →
    Ev (fun k => trestleref04_Tail.l0 k s (p : Int) a b noted) (endT a b (tailGo s m p noted)):=by
  induction m with
  | zero => intro p a b noted h1 h2;omega
  | succ m ih =>
    intro p a b noted hp hm ha hb
    unfold tailGo
    by_cases hend : s.size ≤ p
    · rw [if_pos hend]
      refine Ev.succ (fun k => ?_) (Ev.const _)
      unfold trestleref04_Tail.l0
      rw [if_neg (by omega)]
      simp [endT]
    · rw [if_neg hend]
      have hL:=line_ev s hs p hp
      refine Ev.succ (h:=fun k => (trestleref04_Line.f k s (p : Int)).bind fun bt116 => (if bt116.2.2 = true then (if noted = true then (if b.length < 8796093022208 then (trestleref04_Tail.l0 k s bt116.2.1 a (b ++ [bt116.1]) noted) else (none)) else (if bt116.1.toList = ([99] : List UInt8) then (trestleref04_Tail.l0 k s bt116.2.1 a b true) else ((trestleref04_symbol.f k bt116.1).bind fun bt124 => (if bt124.2.2.2 = true then (if a.length < 4398046511104 then (trestleref04_Tail.l0 k s bt116.2.1 (a ++ [(⟨bt124.1,bt124.2.1,bt124.2.2.1⟩ : S59)]) b noted) else (none)) else ((trestleref04_fault.f (p : Int) 42).bind fun bt132 => (some (([] : List (S59)),([] : List ByteArray),bt132.1,bt132.2))))))) else ((trestleref04_fault.f (p : Int) 42).bind fun bt119 => (some (([] : List (S59)),([] : List ByteArray),bt119.1,bt119.2))))) ?hg (Ev.bind hL ?_)
      case hg =>
        intro k
        conv => lhs;unfold trestleref04_Tail.l0
        rw [if_pos (by omega)]
      cases hq : lineF s p with
      | none =>
        have e : lineR s p = ((⟨#[]⟩ : ByteArray),(p : Int),false):=by unfold lineR;rw [hq]
        rw [e]
        exact Ev.const _
      | some q =>
        obtain ⟨l,q⟩:=q
        have e : lineR s p = (l,(q : Int),true):=by unfold lineR;rw [hq]
        rw [e]
        obtain ⟨b1,b2,b3⟩:=lineF_bounds hq
        cases noted with
        | true =>
          have hI:=ih q a (b ++ [l]) true b2 (by omega) (by omega) (by simp;omega)
          rw [← endT_C] at hI
          refine Ev.congr (fun k => ?_) hI
          show (if true = true then (if true = true then (if b.length < 8796093022208 then (trestleref04_Tail.l0 k s (q : Int) a (b ++ [l]) true) else (none)) else _) else _) = _
          rw [if_pos rfl,if_pos rfl,if_pos (by omega)]
        | false =>
          by_cases hc : l = cB
          · have hI:=ih q a b true b2 (by omega) (by omega) (by omega)
            dsimp only
            rw [if_neg Bool.noConfusion,if_pos hc]
            refine Ev.congr (fun k => ?_) hI
            show (if true = true then (if false = true then _ else (if l.toList = ([99] : List UInt8) then (trestleref04_Tail.l0 k s (q : Int) a b true) else _)) else _) = _
            rw [if_pos rfl,if_neg Bool.noConfusion,if_pos (by rw [hc,Lib.toList_data];rfl)]
          · have hc' : ¬ l.toList = ([99] : List UInt8):=fun h => hc (eqB.1 (h.trans (by rw [Lib.toList_data];rfl)))
            have hY:=symR_ev l (by omega)
            obtain ⟨y1,y2⟩:=sym_eq l
            dsimp only
            rw [if_neg Bool.noConfusion,if_neg hc]
            obtain ⟨x1,x2,x3,x4,hx⟩ : ∃ x1 x2 x3 x4,symR l = (x1,x2,x3,x4):=⟨_,_,_,_,rfl⟩
            rw [hx] at hY y1 y2
            dsimp only at y1 y2
            rw [y1]
            refine Ev.congr (h:=fun k => (trestleref04_symbol.f k l).bind fun bt124 => (if bt124.2.2.2 = true then (if a.length < 4398046511104 then (trestleref04_Tail.l0 k s (q : Int) (a ++ [(⟨bt124.1,bt124.2.1,bt124.2.2.1⟩ : S59)]) b false) else (none)) else ((trestleref04_fault.f (p : Int) 42).bind fun bt132 => (some (([] : List (S59)),([] : List ByteArray),bt132.1,bt132.2))))) (fun k => ?_) (Ev.bind hY ?_)
            · show (if true = true then (if false = true then _ else (if l.toList = ([99] : List UInt8) then _ else ((trestleref04_symbol.f k l).bind fun bt124 => (if bt124.2.2.2 = true then (if a.length < 4398046511104 then (trestleref04_Tail.l0 k s (q : Int) (a ++ [(⟨bt124.1,bt124.2.1,bt124.2.2.1⟩ : S59)]) b false) else (none)) else ((trestleref04_fault.f (p : Int) 42).bind fun bt132 => (some (([] : List (S59)),([] : List ByteArray),bt132.1,bt132.2))))))) else _) = _
              rw [if_pos rfl,if_neg Bool.noConfusion,if_neg hc']
            · cases x4 with
              | false =>
                rw [if_pos rfl]
                exact Ev.const _
              | true =>
                have y2:=y2 rfl
                rw [if_neg Bool.noConfusion,y2]
                have hI:=ih q (a ++ [⟨x1,x2,x3⟩]) b false b2 (by omega) (by simp;omega) (by omega)
                rw [← endT_S] at hI
                refine Ev.congr (fun k => ?_) hI
                show (if true = true then (if a.length < 4398046511104 then (trestleref04_Tail.l0 k s (q : Int) (a ++ [(⟨x1,x2,x3⟩ : S59)]) b false) else (none)) else _) = _
                rw [if_pos rfl,if_pos (by omega)]
theorem tailF_ev (s : ByteArray) (p : Int) : Ev (fun k => trestleref04_Tail.f k s p) (tailF s p):=by
  unfold tailF
  have jT : Ev (fun k => trestleref04_Tail.j0 k s p true) ([],[],0,1):=Ev.succ (fun k => by simp [trestleref04_Tail.j0,trestleref04_fault.f]) (Ev.const _)
  by_cases h1 : 262144 < s.size
  · rw [if_pos h1]
    refine Ev.congr (fun k => ?_) (Ev.const _)
    unfold trestleref04_Tail.f
    rw [if_pos (by omega)]
    rfl
  · rw [if_neg h1]
    by_cases h2 : p < 0
    · rw [if_pos (Or.inl h2)]
      refine Ev.congr (fun k => ?_) jT
      unfold trestleref04_Tail.f
      rw [if_neg (by omega),if_pos h2]
    · by_cases h3 : (s.size : Int) < p
      · rw [if_pos (Or.inr h3)]
        refine Ev.congr (fun k => ?_) jT
        unfold trestleref04_Tail.f
        rw [if_neg (by omega),if_neg h2,decide_eq_true (show p > (s.size : Int) from h3)]
      · rw [if_neg (by omega)]
        obtain ⟨n,rfl⟩ : ∃ n : Nat,p = n:=⟨p.toNat,by omega⟩
        have hL:=tail_loop s (by omega) (s.size + 1) n [] [] false (by omega) (by omega) (Nat.zero_le _) (Nat.zero_le _)
        have key : ∀ r,Ev (fun k => trestleref04_Tail.l0 k s (n : Int) [] [] false) r → Ev (fun k => trestleref04_Tail.f k s (n : Int)) r:=fun r hr => by
          refine Ev.congr (fun k => ?_) (Ev.succ (g:=fun k => trestleref04_Tail.j0 k s (n : Int) false) (fun k => by simp [trestleref04_Tail.j0]) hr)
          unfold trestleref04_Tail.f
          rw [if_neg (by omega),if_neg h2,decide_eq_false (show ¬ (n : Int) > (s.size : Int) from h3)]
        rw [Int.toNat_natCast]
        refine key _ ?_
        cases hT : tailGo s (s.size + 1) n false with
        | error e => rw [hT] at hL;exact hL
        | ok x => rw [hT] at hL;exact hL
theorem tailGo_len (s : ByteArray) : ∀ (m p : Nat) (n : Bool) (x : List S59) (y : List ByteArray),tailGo s m p n = .ok (x,y) → x.length ≤ m ∧ y.length ≤ m
  | 0,p,n,x,y,h => by cases h
  | m + 1,p,n,x,y,h => by
    unfold tailGo at h
    split at h
    · injection h with h
      injection h with h1 h2
      subst h1 h2
      simp
    · split at h
      · cases h
      · rename_i l q hq
        split at h
        · cases hr : tailGo s m q true with
          | error e => rw [hr] at h;cases h
          | ok z =>
            have:=tailGo_len s m q true z.1 z.2 hr
            rw [hr] at h
            simp only [consC] at h
            injection h with h
            injection h with h1 h2
            subst h1 h2
            simp
            omega
        · split at h
          · have:=tailGo_len s m q true x y h
            omega
          · split at h
            · cases h
            · cases hr : tailGo s m q false with
              | error e => rw [hr] at h;cases h
              | ok z =>
                have:=tailGo_len s m q false z.1 z.2 hr
                rw [hr] at h
                simp only [consS] at h
                injection h with h
                injection h with h1 h2
                subst h1 h2
                simp
                omega
theorem tailF_len (s : ByteArray) (p : Int) : (tailF s p).1.length ≤ 262145 ∧ (tailF s p).2.1.length ≤ 262145:=by
  unfold tailF
  split
  · simp
  · split
    · simp
    · cases hr : tailGo s (s.size + 1) p.toNat false with
      | error e => simp
      | ok z =>
        have:=tailGo_len s _ _ _ z.1 z.2 hr
        dsimp only
        omega
theorem texts_loop (l : List ByteArray) (hl : l.length ≤ 262145) (m : Nat) : ∀ i,i + m = l.length → Ev (fun k => trestlebook_SameTexts.l0 k l l (i : Int)) true:=by
  induction m with
  | zero =>
    intro i hi
    refine Ev.succ (fun k => ?_) (Ev.const _)
    unfold trestlebook_SameTexts.l0
    rw [if_neg (by omega)]
  | succ m ih =>
    intro i hi
    refine Ev.succ (fun k => ?_) (ih (i + 1) (by omega))
    conv => lhs;unfold trestlebook_SameTexts.l0
    rw [if_pos (by omega),if_pos (by omega),if_pos (by omega),if_pos rfl,IntWalk.wrap64_in _ (by omega)]
    rfl
end Go.Proofs.YtojepjkpnponoaaDoor.Asc
end
section
namespace Go.Proofs.YtojepjkpnponoaaDoor.Asc
open Go Go.RowKit Go.Proofs.YtojepjkpnponoaaDoorW.PrintWords Go.Proofs.YtojepjkpnponoaaDoorW.PrintLast Go.Proofs.YtojepjkpnponoaaDoorW.PrintMore
set_option linter.unusedVariables false
set_option linter.unusedSimpArgs false
def ex1 : ByteArray:=⟨#[97,97,103,32,49,32,48,32,49,32,48,32,48,32,49,10,50,32,51,10,50,10]⟩
def ex2 : ByteArray:=⟨#[97,97,103,32,48,32,48,32,48,32,48,10]⟩
theorem ex1_read : readF ex1 = (⟨1,[],[⟨2,3,0⟩],[],[2],[],[],[],[],[],[]⟩,0,0):=by kernel_rfl
theorem ex2_read : readF ex2 = (x0S,0,40):=by kernel_rfl
theorem own_form {α : Type} {d : Kd α} {e : Nat} {W : World} {base : Nat} {ok : Nat → Prop} {v : Value} {xs : List α} (h : d.R e W base ok v xs) (h0 : 0 < xs.length) : ∃ g c,v = .slice (some ⟨g,0,none⟩) xs.length c:=by
  obtain ⟨inner,ho⟩:=Kd.R_own h
  rcases ho.2 with ⟨_,h1⟩|⟨g,cap,cur,rfl,_⟩
  · omega
  · exact ⟨g,cap,rfl⟩
theorem latch_cells {W : World} {base : Nat} {ok : Nat → Prop} {A : Option Addr} {n c : Nat} {x : S108} (h : k108.R 108 W base ok (.slice A n c) [x]) : ∃ g,A = some ⟨g,0,none⟩ ∧ W.cell? ⟨g,0,none⟩ = some (.int .i64 x.f0) ∧ W.cell? ⟨g,1,none⟩ = some (.int .i64 x.f1) ∧ W.cell? ⟨g,2,none⟩ = some (.int .i64 x.f2):=by
  obtain ⟨g,c',he⟩:=own_form h (Nat.lt_succ_self 0)
  injection he with he _ _
  subst he
  obtain ⟨ad,ea,h0,h1,h2⟩:=C_latch_get (Kd.R_reads' h).2.2 0 (Nat.lt_succ_self 0)
  injection ea with ea
  subst ea
  simp only [Nat.zero_mul,add_plain,Nat.zero_add] at h0 h1 h2
  exact ⟨g,rfl,h0,h1,h2⟩
theorem int_cell {W : World} {base : Nat} {ok : Nat → Prop} {A : Option Addr} {n c : Nat} {x : Int} (h : (Kd.int .i64).R 3 W base ok (.slice A n c) [x]) : ∃ g,A = some ⟨g,0,none⟩ ∧ W.cell? ⟨g,0,none⟩ = some (.int .i64 x):=by
  obtain ⟨g,c',he,_,hc⟩:=row_some h (Nat.lt_succ_self 0)
  injection he with he _ _
  exact ⟨g,he,hc 0 (Nat.lt_succ_self 0)⟩
set_option maxHeartbeats 4000000 in
set_option maxRecDepth 100000 in
theorem works_calls {w : World} (hG : GV w) : Calls Tryd.prog 25 #[] w fun e w' => e = .returned (.bool true) ∧ Below w.heap.size w w':=by
  have hR1:=read_calls (s:=ex1) hG (by decide)
  rw [ex1_read] at hR1
  unfold ReadEnd ex1 at hR1
  dsimp only at hR1
  have HR1:=Aside0.mk hR1
  have HG:=Aside0.mk hG
  clear hR1 hG
  go_enter Tryd.func25,Tryd.ntmps25
  go_upto_region 2 with (first|(go_at_call 29;refine HR1.out.mono ?_;rintro e w1 ⟨v,rfl,hrows,hb⟩;obtain ⟨v1,v2,v3,v4,v5,v6,v7,v8,v9,v10⟩:=v;obtain ⟨A1_,n1_,rfl⟩:=Kd.R_slice (CRows.r1 hrows);obtain ⟨A2_,n2_,rfl⟩:=Kd.R_slice (CRows.r2 hrows);obtain ⟨A3_,n3_,rfl⟩:=Kd.R_slice (CRows.r3 hrows);obtain ⟨A4_,n4_,rfl⟩:=Kd.R_slice (CRows.r4 hrows);obtain ⟨A5_,n5_,rfl⟩:=Kd.R_slice (CRows.r5 hrows);obtain ⟨A6_,n6_,rfl⟩:=Kd.R_slice (CRows.r6 hrows);obtain ⟨A7_,n7_,rfl⟩:=Kd.R_slice (CRows.r7 hrows);obtain ⟨A8_,n8_,rfl⟩:=Kd.R_slice (CRows.r8 hrows);obtain ⟨A9_,n9_,rfl⟩:=Kd.R_slice (CRows.r9 hrows);obtain ⟨A10_,n10_,rfl⟩:=Kd.R_slice (CRows.r10 hrows);dsimp only [cellsV];have HROW:=Aside0.mk hrows;have HB1:=Aside0.mk hb;clear hrows hb))
  have hb1:=blk_new w1 (.cells #[.int .i64 1,.slice A1_ 0 n1_,.slice A2_ 1 n2_,.slice A3_ 0 n3_,.slice A4_ 1 n4_,.slice A5_ 0 n5_,.slice A6_ 0 n6_,.slice A7_ 0 n7_,.slice A8_ 0 n8_,.slice A9_ 0 n9_,.slice A10_ 0 n10_] 65)
  have hb2:=blk_new (w1.alloc (.cells #[.int .i64 1,.slice A1_ 0 n1_,.slice A2_ 1 n2_,.slice A3_ 0 n3_,.slice A4_ 1 n4_,.slice A5_ 0 n5_,.slice A6_ 0 n6_,.slice A7_ 0 n7_,.slice A8_ 0 n8_,.slice A9_ 0 n9_,.slice A10_ 0 n10_] 65)) (.cells #[.int .i64 0,.int .i64 0] 40)
  simp only [World.size_alloc] at hb2
  have hb1:=blk_alloc hb1 (.cells #[.int .i64 0,.int .i64 0] 40)
  have hbe : Below w1.heap.size w1 ((w1.alloc (.cells #[.int .i64 1,.slice A1_ 0 n1_,.slice A2_ 1 n2_,.slice A3_ 0 n3_,.slice A4_ 1 n4_,.slice A5_ 0 n5_,.slice A6_ 0 n6_,.slice A7_ 0 n7_,.slice A8_ 0 n8_,.slice A9_ 0 n9_,.slice A10_ 0 n10_] 65)).alloc (.cells #[.int .i64 0,.int .i64 0] 40)):=below_alloc (below_alloc (Below.refl _ _) _) _
  obtain ⟨g2,e2,y20,y21,y22⟩:=latch_cells HROW.out.r2
  obtain ⟨g4,e4,y40⟩:=int_cell HROW.out.r4
  subst e2
  subst e4
  replace y20:=pw_cell_below hbe y20
  replace y21:=pw_cell_below hbe y21
  replace y22:=pw_cell_below hbe y22
  replace y40:=pw_cell_below hbe y40
  have hB2:=HB1.out.trans (hbe.mono HB1.out.size)
  clear hbe HROW
  generalize hw2 : (w1.alloc (.cells #[.int .i64 1,.slice A1_ 0 n1_,.slice (some ⟨g2,0,none⟩) 1 n2_,.slice A3_ 0 n3_,.slice (some ⟨g4,0,none⟩) 1 n4_,.slice A5_ 0 n5_,.slice A6_ 0 n6_,.slice A7_ 0 n7_,.slice A8_ 0 n8_,.slice A9_ 0 n9_,.slice A10_ 0 n10_] 65)).alloc (.cells #[.int .i64 0,.int .i64 0] 40) = w2 at hb1 hb2 y20 y21 y22 y40 hB2 ⊢
  clear hw2 HB1
  have hR2:=read_calls (s:=ex2) (GV_below HG.out hB2) (by decide)
  rw [ex2_read] at hR2
  unfold ReadEnd ex2 at hR2
  dsimp only [x0S] at hR2
  have HR2:=Aside0.mk hR2
  have HB2:=Aside0.mk hB2
  generalize w1.heap.size = b1 at hb1 hb2 ⊢
  have K1:=Aside0.mk hb1
  have K2:=Aside0.mk hb2
  have Y0:=Aside0.mk y20
  have Y1:=Aside0.mk y21
  have Y2:=Aside0.mk y22
  have Y4:=Aside0.mk y40
  clear hR2 hB2 hb1 hb2 y20 y21 y22 y40
  go_upto_region 3 with (first|(go_at_call 29;refine HR2.out.mono ?_;rintro e w3 ⟨v,rfl,hrows,hb⟩;obtain ⟨v1,v2,v3,v4,v5,v6,v7,v8,v9,v10⟩:=v;obtain ⟨A1q,n1q,rfl⟩:=Kd.R_slice (CRows.r1 hrows);obtain ⟨A2q,n2q,rfl⟩:=Kd.R_slice (CRows.r2 hrows);obtain ⟨A3q,n3q,rfl⟩:=Kd.R_slice (CRows.r3 hrows);obtain ⟨A4q,n4q,rfl⟩:=Kd.R_slice (CRows.r4 hrows);obtain ⟨A5q,n5q,rfl⟩:=Kd.R_slice (CRows.r5 hrows);obtain ⟨A6q,n6q,rfl⟩:=Kd.R_slice (CRows.r6 hrows);obtain ⟨A7q,n7q,rfl⟩:=Kd.R_slice (CRows.r7 hrows);obtain ⟨A8q,n8q,rfl⟩:=Kd.R_slice (CRows.r8 hrows);obtain ⟨A9q,n9q,rfl⟩:=Kd.R_slice (CRows.r9 hrows);obtain ⟨A10q,n10q,rfl⟩:=Kd.R_slice (CRows.r10 hrows);dsimp only [cellsV];have HBB:=Aside0.mk hb;clear hrows hb))
  have hf:=blk_new (w3.alloc (.cells #[.int .i64 0,.slice A1q 0 n1q,.slice A2q 0 n2q,.slice A3q 0 n3q,.slice A4q 0 n4q,.slice A5q 0 n5q,.slice A6q 0 n6q,.slice A7q 0 n7q,.slice A8q 0 n8q,.slice A9q 0 n9q,.slice A10q 0 n10q] 65)) (.cells #[.int .i64 0,.int .i64 40] 40)
  simp only [World.size_alloc] at hf
  have hbe : Below w3.heap.size w3 ((w3.alloc (.cells #[.int .i64 0,.slice A1q 0 n1q,.slice A2q 0 n2q,.slice A3q 0 n3q,.slice A4q 0 n4q,.slice A5q 0 n5q,.slice A6q 0 n6q,.slice A7q 0 n7q,.slice A8q 0 n8q,.slice A9q 0 n9q,.slice A10q 0 n10q] 65)).alloc (.cells #[.int .i64 0,.int .i64 40] 40)):=below_alloc (below_alloc (Below.refl _ _) _) _
  have hbb:=HBB.out.trans (hbe.mono HBB.out.size)
  have hB4:=HB2.out.trans (hbb.mono HB2.out.size)
  have x0:=pw_cell_below hbb (show w2.cell? ⟨b1,0,none⟩ = some (.int .i64 1) from blk_cell K1.out 0)
  have x2:=pw_cell_below hbb (show w2.cell? ⟨b1,2,none⟩ = some (.slice (some ⟨g2,0,none⟩) 1 n2_) from blk_cell K1.out 2)
  have x4:=pw_cell_below hbb (show w2.cell? ⟨b1,4,none⟩ = some (.slice (some ⟨g4,0,none⟩) 1 n4_) from blk_cell K1.out 4)
  have f0:=pw_cell_below hbb (show w2.cell? ⟨b1 + 1,0,none⟩ = some (.int .i64 0) from blk_cell K2.out 0)
  have f1:=pw_cell_below hbb (show w2.cell? ⟨b1 + 1,1,none⟩ = some (.int .i64 0) from blk_cell K2.out 1)
  have y20:=pw_cell_below hbb Y0.out
  have y21:=pw_cell_below hbb Y1.out
  have y22:=pw_cell_below hbb Y2.out
  have y40:=pw_cell_below hbb Y4.out
  have z0:=blk_cell hf 0
  have z1:=blk_cell hf 1
  have HB4:=Aside0.mk hB4
  clear hf hbe hbb hB4
  generalize (w3.alloc (.cells #[.int .i64 0,.slice A1q 0 n1q,.slice A2q 0 n2q,.slice A3q 0 n3q,.slice A4q 0 n4q,.slice A5q 0 n5q,.slice A6q 0 n6q,.slice A7q 0 n7q,.slice A8q 0 n8q,.slice A9q 0 n9q,.slice A10q 0 n10q] 65)).alloc (.cells #[.int .i64 0,.int .i64 40] 40) = w4 at x0 x2 x4 f0 f1 y20 y21 y22 y40 z0 z1 HB4 ⊢
  generalize w3.heap.size = b3 at z0 z1 ⊢
  go_wp2
  go_ret
  exact ⟨rfl,HB4.out⟩
def trestlelaw04_works.f : Option Bool:=some true
theorem trestlelaw04_works.calls (r : Bool) (w : World) (hG : GV w) (h : trestlelaw04_works.f = some r) :
    Calls Tryd.prog 25 #[] w fun e w' => e = .returned (.bool r) ∧ Below w.heap.size w w':=by
  injection h with h
  subst h
  exact works_calls hG
end Go.Proofs.YtojepjkpnponoaaDoor.Asc
end
