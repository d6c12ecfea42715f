import Derived.Test.YtojepjkpnponoaaDoorKGPrint
import Derived.Test.YtojepjkpnponoaaDoorKPureW
import Derived.Test.YtojepjkpnponoaaDoorKTB
set_option linter.unusedSimpArgs false
namespace Go.Proofs.YtojepjkpnponoaaDoor.Stim
open Go Go.RowKit Go.Proofs.YtojepjkpnponoaaDoorW.PrintWords Go.Proofs.YtojepjkpnponoaaDoorW.PrintLast Go.Proofs.YtojepjkpnponoaaDoorW.PrintMore Go.Proofs.YtojepjkpnponoaaDoor.Whole
set_option linter.unusedVariables false
def textOK (st : Int) (props : List S83) (init : List Bool) (ins : List (List Bool)) (loop : Int) : Bool :=
 printOK st props init ins loop && decide (0 ≤ st) && decide (st < 4294967296) && decide (loop < 4294967296) && props.all (fun p => decide (0 ≤ p.f1) && decide (p.f1 < 4294967296))
theorem textOK_open {st : Int} {props : List S83} {init : List Bool} {ins : List (List Bool)} {loop : Int} (h : textOK st props init ins loop = true) :
  printOK st props init ins loop = true ∧ 0 ≤ st ∧ st < 4294967296 ∧ loop < 4294967296 ∧ (∀ p ∈ props,0 ≤ p.f1 ∧ p.f1 < 4294967296):=by
 simp only [textOK,Bool.and_eq_true,decide_eq_true_eq,List.all_eq_true] at h
 obtain ⟨⟨⟨⟨h1,h2⟩,h3⟩,h4⟩,h5⟩:=h
 exact ⟨h1,h2,h3,h4,h5⟩
theorem strOf_row2 (l : List Bool) : (strOfNums (l.map digitOf) ++ ⟨#[10]⟩).data.toList = rowBytes l:=by
 rw [← strOf_row]
 simp [strOfNums_data,strOfNums]
set_option maxHeartbeats 4000000 in
set_option maxRecDepth 100000 in
theorem trestleref12_text_calls (a0_0 : Int) (A0_1 : Option Addr) (c0_1 : Nat) (l0_1 : List (S83)) (A0_2 : Option Addr) (c0_2 : Nat) (l0_2 : List Bool) (A0_3 : Option Addr) (c0_3 : Nat) (l0_3 : List (List Bool)) (a0_4 : Int) (w : World) (hr0_1 : Kd.C k83 w A0_1 l0_1.length l0_1) (hc0_1 : l0_1.length ≤ c0_1) (hr0_2 : Kd.C Kd.bool w A0_2 l0_2.length l0_2) (hc0_2 : l0_2.length ≤ c0_2) (hr0_3 : Kd.C (Kd.slice 4 Kd.bool) w A0_3 l0_3.length l0_3) (hc0_3 : l0_3.length ≤ c0_3) (h : textOK a0_0 l0_1 l0_2 l0_3 a0_4 = true) :
  Calls Tryd.prog 39 #[.agg #[.int .i64 a0_0,.slice A0_1 l0_1.length c0_1,.slice A0_2 l0_2.length c0_2,.slice A0_3 l0_3.length c0_3,.int .i64 a0_4]] w fun e w' => ∃ v : Value,e = .returned v ∧ OwnT w' w.heap.size v (witBytes a0_0 l0_1 l0_2 l0_3 a0_4) ∧ Below w.heap.size w w':=by
 have hu28:=Tryd.underlying28
 have hu26:=Tryd.underlying26
 have hu83:=Tryd.underlying83
 have HR1:=A0_.mk hr0_1
 have HR2:=A0_.mk hr0_2
 have HR3:=A0_.mk hr0_3
 have HC1:=A0_.mk hc0_1
 have HC2:=A0_.mk hc0_2
 have HC3:=A0_.mk hc0_3
 clear hr0_1 hr0_2 hr0_3 hc0_1 hc0_2 hc0_3
 obtain ⟨hok,hst0,hst1,hlp1,hpa⟩:=textOK_open h
 obtain ⟨hi0,hi4,hps,hin,hrs,htot,hpl,hil⟩:=printOK_open hok
 have HST0:=A0_.mk hst0
 have HST1:=A0_.mk hst1
 have HLP1:=A0_.mk hlp1
 have HPA:=A0_.mk hpa
 have HPS:=A0_.mk hps
 have HIN:=A0_.mk hin
 have HRS:=A0_.mk hrs
 have HTOT:=A0_.mk htot
 have HT : A0_ ((Lib.itoa a0_0).length + 1 ≤ 1000000000):=⟨by have h_:=htot;simp only [witBytes,headBytes,List.length_append,List.length_cons,List.length_nil] at h_;omega⟩
 have hcat : ¬ 9223372036854775807 < (Lib.itoa a0_0).length + 1:=by have:=HT.out;omega
 have hk0:=blk_new w (.cells #[.int .i64 a0_0,.slice A0_1 l0_1.length c0_1,.slice A0_2 l0_2.length c0_2,.slice A0_3 l0_3.length c0_3,.int .i64 a0_4] 28)
 have hb0 : Below w.heap.size w (w.alloc (.cells #[.int .i64 a0_0,.slice A0_1 l0_1.length c0_1,.slice A0_2 l0_2.length c0_2,.slice A0_3 l0_3.length c0_3,.int .i64 a0_4] 28)):=eA_ (Below.refl _ _) _
 have HK0:=A0_.mk hk0
 have HB0:=A0_.mk hb0
 clear h hok hst0 hst1 hlp1 hpa hi0 hi4 hps hin hrs htot hk0 hb0
 go_enter Tryd.func39,Tryd.ntmps39
 go_upto_region 2 with (first|((with_reducible refine gate_callee (f:=70) rfl ?_);refine goesL_ (some 8) rfl rfl Tryd.func70 (by kernel_rfl) rfl #[.int .i64 a0_0] rfl (by (try simp only [List.map_toArray,List.map_cons,List.map_nil]);first|done|rfl) ?_;(with_reducible refine (trestleref02_Whole.calls 100 a0_0 ⟨(Lib.itoa a0_0).toArray⟩ _ (whole_itoa _ HST0.out HST1.out)).mono ?_);rintro e_ w2 ⟨rfl,hd⟩;obtain ⟨m_,rfl⟩:=hd;obtain ⟨v3,w3,hcv,hp⟩:=TB.conv (w:=w) (cs:=#[.int .i64 a0_0,.slice A0_1 l0_1.length c0_1,.slice A0_2 l0_2.length c0_2,.slice A0_3 l0_3.length c0_3,.int .i64 a0_4]) (bN_ HK0.out m_) (eN_ HB0.out m_) (⟨(Lib.itoa a0_0).toArray⟩ ++ ⟨#[10]⟩) (by have h_:=HT.out;(simp only [List.length_append,List.length_cons,List.length_nil,ByteArray.size_append,size_arr,strOfNums_size,List.length_map,List.size_toArray,Nat.zero_add] at *;omega));rw [show ((⟨(Lib.itoa a0_0).toArray⟩ : ByteArray) ++ ⟨#[10]⟩).data.toList = Lib.itoa a0_0 ++ [10] from by simp] at hp;have HTB:=A0_.mk hp;clear hp;refine ⟨_,rfl,?_⟩))
 (try simp only [Act.put,List.setIfInBounds_toArray,List.set_cons_zero,List.set_cons_succ])
 clear HK0 HB0 hcv hcat HT
 have s0 : w3.cell? ⟨w.heap.size,0,none⟩ = some (.int .i64 a0_0):=(bC_ HTB.out.wit 0).trans rfl
 have s1 : w3.cell? ⟨w.heap.size,1,none⟩ = some (.slice A0_1 l0_1.length c0_1):=(bC_ HTB.out.wit 1).trans rfl
 have s2 : w3.cell? ⟨w.heap.size,2,none⟩ = some (.slice A0_2 l0_2.length c0_2):=(bC_ HTB.out.wit 2).trans rfl
 have s3 : w3.cell? ⟨w.heap.size,3,none⟩ = some (.slice A0_3 l0_3.length c0_3):=(bC_ HTB.out.wit 3).trans rfl
 have s4 : w3.cell? ⟨w.heap.size,4,none⟩ = some (.int .i64 a0_4):=(bC_ HTB.out.wit 4).trans rfl
 go_wp2
 repeat (go_quiet (fail);try go_wp2)
 (try simp only [Act.put,List.setIfInBounds_toArray,List.set_cons_zero,List.set_cons_succ])
 go_loopg [3,4] (l0_1.length + 1) (fun kq v3_ v4_ w' => ∃ n : Nat,v4_ = .int .i64 n ∧ A0_ (n + kq = l0_1.length + 1) ∧ A0_ (n ≤ l0_1.length) ∧ A0_ (TB w w' #[.int .i64 a0_0,.slice A0_1 l0_1.length c0_1,.slice A0_2 l0_2.length c0_2,.slice A0_3 l0_3.length c0_3,.int .i64 a0_4] v3_ (Lib.itoa a0_0 ++ [10] ++ propsBytes (l0_1.take n))))
 case atStart => exact ⟨0,rfl,⟨by omega⟩,⟨by omega⟩,⟨by rw [show Lib.itoa a0_0 ++ [10] ++ propsBytes (l0_1.take 0) = Lib.itoa a0_0 ++ [10] from by simp [propsBytes]];exact HTB.out⟩⟩
 case round =>
  try clear s0
  try clear s1
  try clear s2
  try clear s3
  try clear s4
  clear HTB
  obtain ⟨n,rfl,HK,HN,HTB⟩:=hrel
  cases gk with
  |zero =>
   have h1:=HK.out
   have h2:=HN.out
   omega
  |succ k1 =>
   have hlp:=hpl
   by_cases c4 : n < l0_1.length
   ·have c4b0 : decide ((n : Int) < (l0_1.length : Int)) = true:=decide_eq_true (by omega)
    have p238 : 0 ≤ (n : Int):=by omega
    have q238 : (n : Int) < (l0_1.length : Int):=by omega
    obtain ⟨ad238,e238,hx238_0,hx238_1⟩:=at_T83 HR1.out (n : Int) p238 q238
    cases e238
    simp only [Int.toNat_natCast] at hx238_0 hx238_1
    replace p238:=eq_true p238
    replace q238:=eq_true q238
    have hrd : rd_T83 l0_1 (n : Int) = l0_1[n]:=by simp [rd_T83,c4]
    have hpo : propOK (rd_T83 l0_1 (n : Int)) = true:=by rw [hrd];exact HPS.out _ (List.getElem_mem c4)
    have hpa:=HPA.out _ (List.getElem_mem c4)
    rw [← hrd] at hpa
    have htake : l0_1.take (n + 1) = l0_1.take n ++ [rd_T83 l0_1 (n : Int)]:=by rw [hrd];exact List.take_succ_eq_append_getElem c4
    have hpre : (propsBytes (l0_1.take (n + 1))).length ≤ (propsBytes l0_1).length:=propsBytes_take l0_1 (n + 1)
    have hT : (Lib.itoa a0_0).length + 1 + (propsBytes l0_1).length ≤ 1000000000:=by have h_:=HTOT.out;simp only [witBytes,headBytes,List.length_append,List.length_cons,List.length_nil] at h_;omega
    rw [htake,propsBytes_snoc] at hpre
    generalize rd_T83 l0_1 (n : Int) = p at *
    obtain ⟨pk,pa⟩:=p
    dsimp only at *
    simp only [propOK,Bool.and_eq_true,decide_eq_true_eq] at hpo
    obtain ⟨⟨hk0,hk1⟩,hka⟩:=hpo
    obtain ⟨c,rfl⟩ : ∃ c : UInt8,pk = (c.toNat : Int):=⟨UInt8.ofNat pk.toNat,by simp;omega⟩
    have HPA0:=A0_.mk hpa.1
    have HPA1:=A0_.mk hpa.2
    have hlt : (l0_1.take n).length = n:=by simp;omega
    rw [hlt] at hpre
    have HT : A0_ ((Lib.itoa a0_0).length + 1 + ((propsBytes (l0_1.take n)).length + (propBytes (n == 0) ⟨(c.toNat : Int),pa⟩).length) ≤ 1000000000):=⟨by simp only [List.length_append] at hpre;omega⟩
    have HTK:=A0_.mk htake
    have HLT:=A0_.mk hlt
    have HX0:=A0_.mk hx238_0
    have HX1:=A0_.mk hx238_1
    clear hrd htake hpre hT hk0 hk1 hka hlt hpa hx238_0 hx238_1
    have s0 : wr.cell? ⟨w.heap.size,0,none⟩ = some (.int .i64 a0_0):=(bC_ HTB.out.wit 0).trans rfl
    have s1 : wr.cell? ⟨w.heap.size,1,none⟩ = some (.slice (some ad238) l0_1.length c0_1):=(bC_ HTB.out.wit 1).trans rfl
    have s2 : wr.cell? ⟨w.heap.size,2,none⟩ = some (.slice A0_2 l0_2.length c0_2):=(bC_ HTB.out.wit 2).trans rfl
    have s3 : wr.cell? ⟨w.heap.size,3,none⟩ = some (.slice A0_3 l0_3.length c0_3):=(bC_ HTB.out.wit 3).trans rfl
    have s4 : wr.cell? ⟨w.heap.size,4,none⟩ = some (.int .i64 a0_4):=(bC_ HTB.out.wit 4).trans rfl
    have y0 : wr.cell? (ad238.add (n * 2)) = some (.int .u8 (c.toNat : Int)):=(HTB.out.bel.cell (World.block_lt_of_cell? w _ HX0.out)).trans HX0.out
    have y1 : wr.cell? ⟨(ad238.add (n * 2)).block,(ad238.add (n * 2)).off + 1,none⟩ = some (.int .i64 pa):=(HTB.out.bel.cell (World.block_lt_of_cell? w _ HX1.out)).trans HX1.out
    by_cases hn0 : n = 0
    ·skip
     have hn1 : decide ((n : Int) > 0) = false:=decide_eq_false (by omega)
     have hn2 : decide (0 < n) = false:=decide_eq_false (by omega)
     have hn3 : (n == 0) = true:=by simp [hn0]
     have hpl2 : (propBytes (n == 0) ⟨(c.toNat : Int),pa⟩).length = 0 + 1 + (Lib.itoa pa).length:=by rw [hn3];simp [propBytes];try omega
     have hT2:=HT.out
     rw [hpl2] at hT2
     clear HT
     have HT:=A0_.mk hT2
     clear hT2 hpl2 hn0
     go_upto_region 4 with (first|(at_builtin;refine TB.appN_ HTB.out rfl (.tmp 23) (.tmp 30) rfl (c) ((c.toNat : Int)) rfl rfl rfl (by have h_:=HT.out;(simp only [List.length_append,List.length_cons,List.length_nil,ByteArray.size_append,size_arr,strOfNums_size,List.length_map,List.size_toArray,Nat.zero_add] at *;omega)) ?_;intro v_w31 w31 hp;clear HTB;have HTB:=A0_.mk hp;clear hp;have s0 : w31.cell? ⟨w.heap.size,0,none⟩ = some (.int .i64 a0_0):=(bC_ HTB.out.wit 0).trans rfl;have s1 : w31.cell? ⟨w.heap.size,1,none⟩ = some (.slice (some ad238) l0_1.length c0_1):=(bC_ HTB.out.wit 1).trans rfl;have s2 : w31.cell? ⟨w.heap.size,2,none⟩ = some (.slice A0_2 l0_2.length c0_2):=(bC_ HTB.out.wit 2).trans rfl;have s3 : w31.cell? ⟨w.heap.size,3,none⟩ = some (.slice A0_3 l0_3.length c0_3):=(bC_ HTB.out.wit 3).trans rfl;have s4 : w31.cell? ⟨w.heap.size,4,none⟩ = some (.int .i64 a0_4):=(bC_ HTB.out.wit 4).trans rfl;have y0 : w31.cell? (ad238.add (n * 2)) = some (.int .u8 (c.toNat : Int)):=(HTB.out.bel.cell (World.block_lt_of_cell? w _ HX0.out)).trans HX0.out;have y1 : w31.cell? ⟨(ad238.add (n * 2)).block,(ad238.add (n * 2)).off + 1,none⟩ = some (.int .i64 pa):=(HTB.out.bel.cell (World.block_lt_of_cell? w _ HX1.out)).trans HX1.out)|((with_reducible refine gate_callee (f:=70) rfl ?_);refine goesL_ (some 39) rfl rfl Tryd.func70 (by kernel_rfl) rfl #[.int .i64 pa] rfl (by (try simp only [List.map_toArray,List.map_cons,List.map_nil]);first|done|rfl) ?_;(with_reducible refine (trestleref02_Whole.calls 100 (pa) ⟨(Lib.itoa (pa)).toArray⟩ _ (whole_itoa _ HPA0.out HPA1.out)).mono ?_);rintro e_ w32 ⟨rfl,hd⟩;have n0_:=A0_.mk (HTB.out.drawn hd);clear HTB;have HTB:=n0_;clear n0_ hd;have s0 : w32.cell? ⟨w.heap.size,0,none⟩ = some (.int .i64 a0_0):=(bC_ HTB.out.wit 0).trans rfl;have s1 : w32.cell? ⟨w.heap.size,1,none⟩ = some (.slice (some ad238) l0_1.length c0_1):=(bC_ HTB.out.wit 1).trans rfl;have s2 : w32.cell? ⟨w.heap.size,2,none⟩ = some (.slice A0_2 l0_2.length c0_2):=(bC_ HTB.out.wit 2).trans rfl;have s3 : w32.cell? ⟨w.heap.size,3,none⟩ = some (.slice A0_3 l0_3.length c0_3):=(bC_ HTB.out.wit 3).trans rfl;have s4 : w32.cell? ⟨w.heap.size,4,none⟩ = some (.int .i64 a0_4):=(bC_ HTB.out.wit 4).trans rfl;have y0 : w32.cell? (ad238.add (n * 2)) = some (.int .u8 (c.toNat : Int)):=(HTB.out.bel.cell (World.block_lt_of_cell? w _ HX0.out)).trans HX0.out;have y1 : w32.cell? ⟨(ad238.add (n * 2)).block,(ad238.add (n * 2)).off + 1,none⟩ = some (.int .i64 pa):=(HTB.out.bel.cell (World.block_lt_of_cell? w _ HX1.out)).trans HX1.out;refine ⟨_,rfl,?_⟩)|(at_builtin;refine TB.appS_ HTB.out rfl (.tmp 32) (.tmp 39) rfl (⟨(Lib.itoa pa).toArray⟩) rfl rfl (by have h_:=HT.out;(simp only [List.length_append,List.length_cons,List.length_nil,ByteArray.size_append,size_arr,strOfNums_size,List.length_map,List.size_toArray,Nat.zero_add] at *;omega)) ?_;intro v_w33 w33 hp;clear HTB;skip;have HTB:=A0_.mk hp;clear hp;have s0 : w33.cell? ⟨w.heap.size,0,none⟩ = some (.int .i64 a0_0):=(bC_ HTB.out.wit 0).trans rfl;have s1 : w33.cell? ⟨w.heap.size,1,none⟩ = some (.slice (some ad238) l0_1.length c0_1):=(bC_ HTB.out.wit 1).trans rfl;have s2 : w33.cell? ⟨w.heap.size,2,none⟩ = some (.slice A0_2 l0_2.length c0_2):=(bC_ HTB.out.wit 2).trans rfl;have s3 : w33.cell? ⟨w.heap.size,3,none⟩ = some (.slice A0_3 l0_3.length c0_3):=(bC_ HTB.out.wit 3).trans rfl;have s4 : w33.cell? ⟨w.heap.size,4,none⟩ = some (.int .i64 a0_4):=(bC_ HTB.out.wit 4).trans rfl;have y0 : w33.cell? (ad238.add (n * 2)) = some (.int .u8 (c.toNat : Int)):=(HTB.out.bel.cell (World.block_lt_of_cell? w _ HX0.out)).trans HX0.out;have y1 : w33.cell? ⟨(ad238.add (n * 2)).block,(ad238.add (n * 2)).off + 1,none⟩ = some (.int .i64 pa):=(HTB.out.bel.cell (World.block_lt_of_cell? w _ HX1.out)).trans HX1.out))
     (try simp only [Act.put,List.setIfInBounds_toArray,List.set_cons_zero,List.set_cons_succ])
     have hfin : Lib.itoa a0_0 ++ [10] ++ propsBytes (l0_1.take n) ++ [c] ++ (⟨(Lib.itoa pa).toArray⟩ : ByteArray).data.toList = Lib.itoa a0_0 ++ [10] ++ propsBytes (l0_1.take (n + 1)):=by rw [HTK.out,propsBytes_snoc,HLT.out,hn3];simp [propBytes]
     have hpb:=HTB.out
     rw [hfin] at hpb
     clear HTB hfin
     have HTB:=A0_.mk hpb
     clear hpb
     go_wp2
     repeat (go_quiet (fail);try go_wp2)
     go_roundg k1
     case measure => omega
     case rel => exact ⟨n + 1,by go_num,⟨by have:=HK.out;omega⟩,⟨by omega⟩,HTB⟩
    ·skip
     have hn1 : decide ((n : Int) > 0) = true:=decide_eq_true (by omega)
     have hn2 : decide (0 < n) = true:=decide_eq_true (by omega)
     have hn4 : 0 < n:=by omega
     have hn3 : (n == 0) = false:=by simp [hn0]
     have hpl2 : (propBytes (n == 0) ⟨(c.toNat : Int),pa⟩).length = 1 + 1 + (Lib.itoa pa).length:=by rw [hn3];simp [propBytes];try omega
     have hT2:=HT.out
     rw [hpl2] at hT2
     clear HT
     have HT:=A0_.mk hT2
     clear hT2 hpl2 hn0
     go_upto_region 4 with (first|(at_builtin;refine TB.appN_ HTB.out rfl (.tmp 20) (.tmp 21) rfl (32) (32) rfl rfl rfl (by have h_:=HT.out;(simp only [List.length_append,List.length_cons,List.length_nil,ByteArray.size_append,size_arr,strOfNums_size,List.length_map,List.size_toArray,Nat.zero_add] at *;omega)) ?_;intro v_w31 w31 hp;clear HTB;have HTB:=A0_.mk hp;clear hp;have s0 : w31.cell? ⟨w.heap.size,0,none⟩ = some (.int .i64 a0_0):=(bC_ HTB.out.wit 0).trans rfl;have s1 : w31.cell? ⟨w.heap.size,1,none⟩ = some (.slice (some ad238) l0_1.length c0_1):=(bC_ HTB.out.wit 1).trans rfl;have s2 : w31.cell? ⟨w.heap.size,2,none⟩ = some (.slice A0_2 l0_2.length c0_2):=(bC_ HTB.out.wit 2).trans rfl;have s3 : w31.cell? ⟨w.heap.size,3,none⟩ = some (.slice A0_3 l0_3.length c0_3):=(bC_ HTB.out.wit 3).trans rfl;have s4 : w31.cell? ⟨w.heap.size,4,none⟩ = some (.int .i64 a0_4):=(bC_ HTB.out.wit 4).trans rfl;have y0 : w31.cell? (ad238.add (n * 2)) = some (.int .u8 (c.toNat : Int)):=(HTB.out.bel.cell (World.block_lt_of_cell? w _ HX0.out)).trans HX0.out;have y1 : w31.cell? ⟨(ad238.add (n * 2)).block,(ad238.add (n * 2)).off + 1,none⟩ = some (.int .i64 pa):=(HTB.out.bel.cell (World.block_lt_of_cell? w _ HX1.out)).trans HX1.out)|(at_builtin;refine TB.appN_ HTB.out rfl (.tmp 23) (.tmp 30) rfl (c) ((c.toNat : Int)) rfl rfl rfl (by have h_:=HT.out;(simp only [List.length_append,List.length_cons,List.length_nil,ByteArray.size_append,size_arr,strOfNums_size,List.length_map,List.size_toArray,Nat.zero_add] at *;omega)) ?_;intro v_w32 w32 hp;clear HTB;have HTB:=A0_.mk hp;clear hp;have s0 : w32.cell? ⟨w.heap.size,0,none⟩ = some (.int .i64 a0_0):=(bC_ HTB.out.wit 0).trans rfl;have s1 : w32.cell? ⟨w.heap.size,1,none⟩ = some (.slice (some ad238) l0_1.length c0_1):=(bC_ HTB.out.wit 1).trans rfl;have s2 : w32.cell? ⟨w.heap.size,2,none⟩ = some (.slice A0_2 l0_2.length c0_2):=(bC_ HTB.out.wit 2).trans rfl;have s3 : w32.cell? ⟨w.heap.size,3,none⟩ = some (.slice A0_3 l0_3.length c0_3):=(bC_ HTB.out.wit 3).trans rfl;have s4 : w32.cell? ⟨w.heap.size,4,none⟩ = some (.int .i64 a0_4):=(bC_ HTB.out.wit 4).trans rfl;have y0 : w32.cell? (ad238.add (n * 2)) = some (.int .u8 (c.toNat : Int)):=(HTB.out.bel.cell (World.block_lt_of_cell? w _ HX0.out)).trans HX0.out;have y1 : w32.cell? ⟨(ad238.add (n * 2)).block,(ad238.add (n * 2)).off + 1,none⟩ = some (.int .i64 pa):=(HTB.out.bel.cell (World.block_lt_of_cell? w _ HX1.out)).trans HX1.out)|((with_reducible refine gate_callee (f:=70) rfl ?_);refine goesL_ (some 39) rfl rfl Tryd.func70 (by kernel_rfl) rfl #[.int .i64 pa] rfl (by (try simp only [List.map_toArray,List.map_cons,List.map_nil]);first|done|rfl) ?_;(with_reducible refine (trestleref02_Whole.calls 100 (pa) ⟨(Lib.itoa (pa)).toArray⟩ _ (whole_itoa _ HPA0.out HPA1.out)).mono ?_);rintro e_ w33 ⟨rfl,hd⟩;have n0_:=A0_.mk (HTB.out.drawn hd);clear HTB;have HTB:=n0_;clear n0_ hd;have s0 : w33.cell? ⟨w.heap.size,0,none⟩ = some (.int .i64 a0_0):=(bC_ HTB.out.wit 0).trans rfl;have s1 : w33.cell? ⟨w.heap.size,1,none⟩ = some (.slice (some ad238) l0_1.length c0_1):=(bC_ HTB.out.wit 1).trans rfl;have s2 : w33.cell? ⟨w.heap.size,2,none⟩ = some (.slice A0_2 l0_2.length c0_2):=(bC_ HTB.out.wit 2).trans rfl;have s3 : w33.cell? ⟨w.heap.size,3,none⟩ = some (.slice A0_3 l0_3.length c0_3):=(bC_ HTB.out.wit 3).trans rfl;have s4 : w33.cell? ⟨w.heap.size,4,none⟩ = some (.int .i64 a0_4):=(bC_ HTB.out.wit 4).trans rfl;have y0 : w33.cell? (ad238.add (n * 2)) = some (.int .u8 (c.toNat : Int)):=(HTB.out.bel.cell (World.block_lt_of_cell? w _ HX0.out)).trans HX0.out;have y1 : w33.cell? ⟨(ad238.add (n * 2)).block,(ad238.add (n * 2)).off + 1,none⟩ = some (.int .i64 pa):=(HTB.out.bel.cell (World.block_lt_of_cell? w _ HX1.out)).trans HX1.out;refine ⟨_,rfl,?_⟩)|(at_builtin;refine TB.appS_ HTB.out rfl (.tmp 32) (.tmp 39) rfl (⟨(Lib.itoa pa).toArray⟩) rfl rfl (by have h_:=HT.out;(simp only [List.length_append,List.length_cons,List.length_nil,ByteArray.size_append,size_arr,strOfNums_size,List.length_map,List.size_toArray,Nat.zero_add] at *;omega)) ?_;intro v_w34 w34 hp;clear HTB;skip;have HTB:=A0_.mk hp;clear hp;have s0 : w34.cell? ⟨w.heap.size,0,none⟩ = some (.int .i64 a0_0):=(bC_ HTB.out.wit 0).trans rfl;have s1 : w34.cell? ⟨w.heap.size,1,none⟩ = some (.slice (some ad238) l0_1.length c0_1):=(bC_ HTB.out.wit 1).trans rfl;have s2 : w34.cell? ⟨w.heap.size,2,none⟩ = some (.slice A0_2 l0_2.length c0_2):=(bC_ HTB.out.wit 2).trans rfl;have s3 : w34.cell? ⟨w.heap.size,3,none⟩ = some (.slice A0_3 l0_3.length c0_3):=(bC_ HTB.out.wit 3).trans rfl;have s4 : w34.cell? ⟨w.heap.size,4,none⟩ = some (.int .i64 a0_4):=(bC_ HTB.out.wit 4).trans rfl;have y0 : w34.cell? (ad238.add (n * 2)) = some (.int .u8 (c.toNat : Int)):=(HTB.out.bel.cell (World.block_lt_of_cell? w _ HX0.out)).trans HX0.out;have y1 : w34.cell? ⟨(ad238.add (n * 2)).block,(ad238.add (n * 2)).off + 1,none⟩ = some (.int .i64 pa):=(HTB.out.bel.cell (World.block_lt_of_cell? w _ HX1.out)).trans HX1.out))
     (try simp only [Act.put,List.setIfInBounds_toArray,List.set_cons_zero,List.set_cons_succ])
     have hfin : Lib.itoa a0_0 ++ [10] ++ propsBytes (l0_1.take n) ++ [32] ++ [c] ++ (⟨(Lib.itoa pa).toArray⟩ : ByteArray).data.toList = Lib.itoa a0_0 ++ [10] ++ propsBytes (l0_1.take (n + 1)):=by rw [HTK.out,propsBytes_snoc,HLT.out,hn3];simp [propBytes]
     have hpb:=HTB.out
     rw [hfin] at hpb
     clear HTB hfin
     have HTB:=A0_.mk hpb
     clear hpb
     go_wp2
     repeat (go_quiet (fail);try go_wp2)
     go_roundg k1
     case measure => omega
     case rel => exact ⟨n + 1,by go_num,⟨by have:=HK.out;omega⟩,⟨by omega⟩,HTB⟩
   ·have c4b0 : decide ((n : Int) < (l0_1.length : Int)) = false:=decide_eq_false (by omega)
    have hn : n = l0_1.length:=by have:=HN.out;omega
    have hpb:=HTB.out
    rw [hn,List.take_length] at hpb
    clear HTB
    have HTB:=A0_.mk hpb
    have HT : A0_ ((Lib.itoa a0_0).length + 1 + (propsBytes l0_1).length + 1 + (traceBytes a0_0 l0_2 l0_3 a0_4).length + 2 ≤ 1000000000):=⟨by have h_:=HTOT.out;simp only [witBytes,headBytes,List.length_append,List.length_cons,List.length_nil] at h_;omega⟩
    clear hpb
    have s0 : wr.cell? ⟨w.heap.size,0,none⟩ = some (.int .i64 a0_0):=(bC_ HTB.out.wit 0).trans rfl
    have s1 : wr.cell? ⟨w.heap.size,1,none⟩ = some (.slice A0_1 l0_1.length c0_1):=(bC_ HTB.out.wit 1).trans rfl
    have s2 : wr.cell? ⟨w.heap.size,2,none⟩ = some (.slice A0_2 l0_2.length c0_2):=(bC_ HTB.out.wit 2).trans rfl
    have s3 : wr.cell? ⟨w.heap.size,3,none⟩ = some (.slice A0_3 l0_3.length c0_3):=(bC_ HTB.out.wit 3).trans rfl
    have s4 : wr.cell? ⟨w.heap.size,4,none⟩ = some (.int .i64 a0_4):=(bC_ HTB.out.wit 4).trans rfl
    go_upto_region 10 with (first|(at_builtin;refine TB.appN_ HTB.out rfl (.tmp 41) (.tmp 42) rfl (10) (10) rfl rfl rfl (by have h_:=HT.out;(simp only [List.length_append,List.length_cons,List.length_nil,ByteArray.size_append,size_arr,strOfNums_size,List.length_map,List.size_toArray,Nat.zero_add] at *;omega)) ?_;intro v_w12 w12 hp;clear HTB;have HTB:=A0_.mk hp;clear hp;have s0 : w12.cell? ⟨w.heap.size,0,none⟩ = some (.int .i64 a0_0):=(bC_ HTB.out.wit 0).trans rfl;have s1 : w12.cell? ⟨w.heap.size,1,none⟩ = some (.slice A0_1 l0_1.length c0_1):=(bC_ HTB.out.wit 1).trans rfl;have s2 : w12.cell? ⟨w.heap.size,2,none⟩ = some (.slice A0_2 l0_2.length c0_2):=(bC_ HTB.out.wit 2).trans rfl;have s3 : w12.cell? ⟨w.heap.size,3,none⟩ = some (.slice A0_3 l0_3.length c0_3):=(bC_ HTB.out.wit 3).trans rfl;have s4 : w12.cell? ⟨w.heap.size,4,none⟩ = some (.int .i64 a0_4):=(bC_ HTB.out.wit 4).trans rfl))
    (try simp only [Act.put,List.setIfInBounds_toArray,List.set_cons_zero,List.set_cons_succ])
    have hhl : (headBytes a0_0 l0_1).length = (Lib.itoa a0_0).length + 1 + (propsBytes l0_1).length + 1:=by simp [headBytes];omega
    have hT2:=HT.out
    rw [← hhl] at hT2
    clear HT
    have HT:=A0_.mk hT2
    clear hT2 hhl
    have hfin : Lib.itoa a0_0 ++ [10] ++ propsBytes l0_1 ++ [10] = headBytes a0_0 l0_1:=by rfl
    have hpb:=HTB.out
    rw [hfin] at hpb
    clear HTB hfin
    have HTB:=A0_.mk hpb
    clear hpb
    by_cases st1 : a0_0 = 1
    ·subst st1
     have htl : (traceBytes 1 l0_2 l0_3 a0_4).length = l0_2.length + 1 + (rowsBytes l0_3).length + (loopBytes a0_4).length:=by simp [traceBytes,rowBytes];try omega
     have hT2:=HT.out
     rw [htl] at hT2
     clear HT htl
     have HT:=A0_.mk hT2
     have hcat3 : ¬ 9223372036854775807 < (strOfNums (l0_2.map digitOf)).size + 1:=by rw [strOfNums_size,List.length_map];omega
     have hcat4 : ¬ 9223372036854775807 < l0_2.length + 1:=by omega
     clear hT2
     go_upto_region 12 with (first|((with_reducible refine gate_callee (f:=71) rfl ?_);refine goesL_ (some 51) rfl rfl Tryd.func71 (by kernel_rfl) rfl #[.slice A0_2 l0_2.length c0_2] rfl (by (try simp only [List.map_toArray,List.map_cons,List.map_nil]);first|done|rfl) ?_;(with_reducible refine (trestleref02_Bits0.calls (l0_2.length + 2) A0_2 c0_2 l0_2 (strOfNums (l0_2.map digitOf)) _ (Kd.C_below HR2.out HTB.out.bel) HC2.out (bits_f l0_2 HIN.out)).mono ?_);rintro e_ w13 ⟨rfl,hb⟩;have n0_:=A0_.mk (HTB.out.below hb);clear HTB;have HTB:=n0_;clear n0_ hb;have s0 : w13.cell? ⟨w.heap.size,0,none⟩ = some (.int .i64 1):=(bC_ HTB.out.wit 0).trans rfl;have s1 : w13.cell? ⟨w.heap.size,1,none⟩ = some (.slice A0_1 l0_1.length c0_1):=(bC_ HTB.out.wit 1).trans rfl;have s2 : w13.cell? ⟨w.heap.size,2,none⟩ = some (.slice A0_2 l0_2.length c0_2):=(bC_ HTB.out.wit 2).trans rfl;have s3 : w13.cell? ⟨w.heap.size,3,none⟩ = some (.slice A0_3 l0_3.length c0_3):=(bC_ HTB.out.wit 3).trans rfl;have s4 : w13.cell? ⟨w.heap.size,4,none⟩ = some (.int .i64 a0_4):=(bC_ HTB.out.wit 4).trans rfl;refine ⟨_,rfl,?_⟩)|(at_builtin;refine TB.appS_ HTB.out rfl (.tmp 47) (.tmp 52) rfl (strOfNums (l0_2.map digitOf) ++ ⟨#[10]⟩) rfl rfl (by have h_:=HT.out;(simp only [List.length_append,List.length_cons,List.length_nil,ByteArray.size_append,size_arr,strOfNums_size,List.length_map,List.size_toArray,Nat.zero_add] at *;omega)) ?_;intro v_w14 w14 hp;clear HTB;skip;have HTB:=A0_.mk hp;clear hp;have s0 : w14.cell? ⟨w.heap.size,0,none⟩ = some (.int .i64 1):=(bC_ HTB.out.wit 0).trans rfl;have s1 : w14.cell? ⟨w.heap.size,1,none⟩ = some (.slice A0_1 l0_1.length c0_1):=(bC_ HTB.out.wit 1).trans rfl;have s2 : w14.cell? ⟨w.heap.size,2,none⟩ = some (.slice A0_2 l0_2.length c0_2):=(bC_ HTB.out.wit 2).trans rfl;have s3 : w14.cell? ⟨w.heap.size,3,none⟩ = some (.slice A0_3 l0_3.length c0_3):=(bC_ HTB.out.wit 3).trans rfl;have s4 : w14.cell? ⟨w.heap.size,4,none⟩ = some (.int .i64 a0_4):=(bC_ HTB.out.wit 4).trans rfl))
     (try simp only [Act.put,List.setIfInBounds_toArray,List.set_cons_zero,List.set_cons_succ])
     have hfin : headBytes 1 l0_1 ++ (strOfNums (l0_2.map digitOf) ++ ⟨#[10]⟩).data.toList = headBytes 1 l0_1 ++ rowBytes l0_2:=by rw [strOf_row2]
     have hpb:=HTB.out
     rw [hfin] at hpb
     clear HTB hfin
     have HTB:=A0_.mk hpb
     clear hpb
     go_wp2
     repeat (go_quiet (fail);try go_wp2)
     (try simp only [Act.put,List.setIfInBounds_toArray,List.set_cons_zero,List.set_cons_succ])
     go_loopg [3,5] (l0_3.length + 1) (fun kq v3_ v5_ w' => ∃ m : Nat,v5_ = .int .i64 m ∧ A0_ (m + kq = l0_3.length + 1) ∧ A0_ (m ≤ l0_3.length) ∧ A0_ (TB w w' #[.int .i64 1,.slice A0_1 l0_1.length c0_1,.slice A0_2 l0_2.length c0_2,.slice A0_3 l0_3.length c0_3,.int .i64 a0_4] v3_ (headBytes 1 l0_1 ++ rowBytes l0_2 ++ rowsBytes (l0_3.take m))))
     case atStart => exact ⟨0,rfl,⟨by omega⟩,⟨by omega⟩,⟨by rw [show headBytes 1 l0_1 ++ rowBytes l0_2 ++ rowsBytes (l0_3.take 0) = headBytes 1 l0_1 ++ rowBytes l0_2 from by simp [rowsBytes]];exact HTB.out⟩⟩
     case round =>
      try clear s0
      try clear s1
      try clear s2
      try clear s3
      try clear s4
      clear HTB hcat3 hcat4
      obtain ⟨m,rfl,HKm,HNm,HTB⟩:=hrel
      cases gk with
      |zero =>
       have h1:=HKm.out
       have h2:=HNm.out
       omega
      |succ k2 =>
       have hlp3:=hil
       by_cases d4 : m < l0_3.length
       ·have d4b0 : decide ((m : Int) < (l0_3.length : Int)) = true:=decide_eq_true (by omega)
        have p239 : 0 ≤ (m : Int):=by omega
        have q239 : (m : Int) < (l0_3.length : Int):=by omega
        obtain ⟨ad239,Ar,cr,e239,hx239,hle239,hC239⟩:=at_L6 HR3.out (m : Int) p239 q239
        cases e239
        simp only [Int.toNat_natCast] at hx239
        replace p239:=eq_true p239
        replace q239:=eq_true q239
        have hrd : rd_L6 l0_3 (m : Int) = l0_3[m]:=by simp [rd_L6,d4]
        have hrl : (rd_L6 l0_3 (m : Int)).length < 4294967296:=by rw [hrd];exact HRS.out _ (List.getElem_mem d4)
        have htake : l0_3.take (m + 1) = l0_3.take m ++ [rd_L6 l0_3 (m : Int)]:=by rw [hrd];exact List.take_succ_eq_append_getElem d4
        have hpre : (rowsBytes (l0_3.take (m + 1))).length ≤ (rowsBytes l0_3).length:=rowsBytes_take l0_3 (m + 1)
        rw [htake,rowsBytes_snoc,List.length_append,rowBytes_length] at hpre
        generalize rd_L6 l0_3 (m : Int) = row at *
        have hrbl : (rowBytes l0_2).length = l0_2.length + 1:=rowBytes_length l0_2
        have hcat5 : ¬ 9223372036854775807 < (strOfNums (row.map digitOf)).size + 1:=by rw [strOfNums_size,List.length_map];omega
        have hcat6 : ¬ 9223372036854775807 < row.length + 1:=by omega
        have HRL:=A0_.mk hrl
        have HCR:=A0_.mk hC239
        have HTK:=A0_.mk htake
        have HX0:=A0_.mk hx239
        have HTT:=HT
        clear HT
        have HT : A0_ ((headBytes 1 l0_1).length + (rowBytes l0_2).length + ((rowsBytes (l0_3.take m)).length + (row.length + 1)) ≤ 1000000000):=⟨by have h_:=HTT.out;omega⟩
        clear hrd hrl htake hpre hC239 hrbl HTT hx239
        have s0 : wr.cell? ⟨w.heap.size,0,none⟩ = some (.int .i64 1):=(bC_ HTB.out.wit 0).trans rfl
        have s1 : wr.cell? ⟨w.heap.size,1,none⟩ = some (.slice A0_1 l0_1.length c0_1):=(bC_ HTB.out.wit 1).trans rfl
        have s2 : wr.cell? ⟨w.heap.size,2,none⟩ = some (.slice A0_2 l0_2.length c0_2):=(bC_ HTB.out.wit 2).trans rfl
        have s3 : wr.cell? ⟨w.heap.size,3,none⟩ = some (.slice (some ad239) l0_3.length c0_3):=(bC_ HTB.out.wit 3).trans rfl
        have s4 : wr.cell? ⟨w.heap.size,4,none⟩ = some (.int .i64 a0_4):=(bC_ HTB.out.wit 4).trans rfl
        have y0 : wr.cell? (ad239.add m) = some (.slice Ar row.length cr):=(HTB.out.bel.cell (World.block_lt_of_cell? w _ HX0.out)).trans HX0.out
        go_upto_region 14 with (first|((with_reducible refine gate_callee (f:=71) rfl ?_);refine goesL_ (some 69) rfl rfl Tryd.func71 (by kernel_rfl) rfl #[.slice Ar row.length cr] rfl (by (try simp only [List.map_toArray,List.map_cons,List.map_nil]);first|done|rfl) ?_;(with_reducible refine (trestleref02_Bits0.calls (row.length + 2) Ar cr row (strOfNums (row.map digitOf)) _ (Kd.C_below HCR.out HTB.out.bel) hle239 (bits_f row HRL.out)).mono ?_);rintro e_ w15 ⟨rfl,hb⟩;have n0_:=A0_.mk (HTB.out.below hb);clear HTB;have HTB:=n0_;clear n0_ hb;have s0 : w15.cell? ⟨w.heap.size,0,none⟩ = some (.int .i64 1):=(bC_ HTB.out.wit 0).trans rfl;have s1 : w15.cell? ⟨w.heap.size,1,none⟩ = some (.slice A0_1 l0_1.length c0_1):=(bC_ HTB.out.wit 1).trans rfl;have s2 : w15.cell? ⟨w.heap.size,2,none⟩ = some (.slice A0_2 l0_2.length c0_2):=(bC_ HTB.out.wit 2).trans rfl;have s3 : w15.cell? ⟨w.heap.size,3,none⟩ = some (.slice (some ad239) l0_3.length c0_3):=(bC_ HTB.out.wit 3).trans rfl;have s4 : w15.cell? ⟨w.heap.size,4,none⟩ = some (.int .i64 a0_4):=(bC_ HTB.out.wit 4).trans rfl;have y0 : w15.cell? (ad239.add m) = some (.slice Ar row.length cr):=(HTB.out.bel.cell (World.block_lt_of_cell? w _ HX0.out)).trans HX0.out;refine ⟨_,rfl,?_⟩)|(at_builtin;refine TB.appS_ HTB.out rfl (.tmp 62) (.tmp 70) rfl (strOfNums (row.map digitOf) ++ ⟨#[10]⟩) rfl rfl (by have h_:=HT.out;(simp only [List.length_append,List.length_cons,List.length_nil,ByteArray.size_append,size_arr,strOfNums_size,List.length_map,List.size_toArray,Nat.zero_add] at *;omega)) ?_;intro v_w16 w16 hp;clear HTB;skip;have HTB:=A0_.mk hp;clear hp;have s0 : w16.cell? ⟨w.heap.size,0,none⟩ = some (.int .i64 1):=(bC_ HTB.out.wit 0).trans rfl;have s1 : w16.cell? ⟨w.heap.size,1,none⟩ = some (.slice A0_1 l0_1.length c0_1):=(bC_ HTB.out.wit 1).trans rfl;have s2 : w16.cell? ⟨w.heap.size,2,none⟩ = some (.slice A0_2 l0_2.length c0_2):=(bC_ HTB.out.wit 2).trans rfl;have s3 : w16.cell? ⟨w.heap.size,3,none⟩ = some (.slice (some ad239) l0_3.length c0_3):=(bC_ HTB.out.wit 3).trans rfl;have s4 : w16.cell? ⟨w.heap.size,4,none⟩ = some (.int .i64 a0_4):=(bC_ HTB.out.wit 4).trans rfl;have y0 : w16.cell? (ad239.add m) = some (.slice Ar row.length cr):=(HTB.out.bel.cell (World.block_lt_of_cell? w _ HX0.out)).trans HX0.out))
        (try simp only [Act.put,List.setIfInBounds_toArray,List.set_cons_zero,List.set_cons_succ])
        have hfin : headBytes 1 l0_1 ++ rowBytes l0_2 ++ rowsBytes (l0_3.take m) ++ (strOfNums (row.map digitOf) ++ ⟨#[10]⟩).data.toList = headBytes 1 l0_1 ++ rowBytes l0_2 ++ rowsBytes (l0_3.take (m + 1)):=by rw [strOf_row2,HTK.out,rowsBytes_snoc];simp
        have hpb:=HTB.out
        rw [hfin] at hpb
        clear HTB hfin
        have HTB:=A0_.mk hpb
        clear hpb
        go_wp2
        repeat (go_quiet (fail);try go_wp2)
        go_roundg k2
        case measure => omega
        case rel => exact ⟨m + 1,by go_num,⟨by have:=HKm.out;omega⟩,⟨by omega⟩,HTB⟩
       ·have d4b0 : decide ((m : Int) < (l0_3.length : Int)) = false:=decide_eq_false (by omega)
        have hm : m = l0_3.length:=by have:=HNm.out;omega
        have hpb:=HTB.out
        rw [hm,List.take_length] at hpb
        clear HTB
        have HTB:=A0_.mk hpb
        clear hpb
        have hrbl : (rowBytes l0_2).length = l0_2.length + 1:=rowBytes_length l0_2
        have s0 : wr.cell? ⟨w.heap.size,0,none⟩ = some (.int .i64 1):=(bC_ HTB.out.wit 0).trans rfl
        have s1 : wr.cell? ⟨w.heap.size,1,none⟩ = some (.slice A0_1 l0_1.length c0_1):=(bC_ HTB.out.wit 1).trans rfl
        have s2 : wr.cell? ⟨w.heap.size,2,none⟩ = some (.slice A0_2 l0_2.length c0_2):=(bC_ HTB.out.wit 2).trans rfl
        have s3 : wr.cell? ⟨w.heap.size,3,none⟩ = some (.slice A0_3 l0_3.length c0_3):=(bC_ HTB.out.wit 3).trans rfl
        have s4 : wr.cell? ⟨w.heap.size,4,none⟩ = some (.int .i64 a0_4):=(bC_ HTB.out.wit 4).trans rfl
        by_cases lp : a0_4 ≥ 0
        ·have lpb : decide (a0_4 ≥ 0) = true:=decide_eq_true lp
         have lpc : decide (0 ≤ a0_4) = true:=decide_eq_true lp
         have HLP0:=A0_.mk lp
         have hll : (loopBytes a0_4).length = 7 + (Lib.itoa a0_4).length + 1:=by simp [loopBytes,lp];try omega
         have hT2:=HT.out
         rw [hll,← hrbl] at hT2
         clear HT
         have HT:=A0_.mk hT2
         have hcat1 : ¬ 9223372036854775807 < 7 + (Lib.itoa a0_4).length:=by omega
         have hcat2 : ¬ 9223372036854775807 < 7 + (Lib.itoa a0_4).length + 1:=by omega
         clear hT2 hll
         go_upto_region 18 with (first|((with_reducible refine gate_callee (f:=70) rfl ?_);refine goesL_ (some 80) rfl rfl Tryd.func70 (by kernel_rfl) rfl #[.int .i64 a0_4] rfl (by (try simp only [List.map_toArray,List.map_cons,List.map_nil]);first|done|rfl) ?_;(with_reducible refine (trestleref02_Whole.calls 100 (a0_4) ⟨(Lib.itoa (a0_4)).toArray⟩ _ (whole_itoa _ HLP0.out HLP1.out)).mono ?_);rintro e_ w17 ⟨rfl,hd⟩;have n0_:=A0_.mk (HTB.out.drawn hd);clear HTB;have HTB:=n0_;clear n0_ hd;have s0 : w17.cell? ⟨w.heap.size,0,none⟩ = some (.int .i64 1):=(bC_ HTB.out.wit 0).trans rfl;have s1 : w17.cell? ⟨w.heap.size,1,none⟩ = some (.slice A0_1 l0_1.length c0_1):=(bC_ HTB.out.wit 1).trans rfl;have s2 : w17.cell? ⟨w.heap.size,2,none⟩ = some (.slice A0_2 l0_2.length c0_2):=(bC_ HTB.out.wit 2).trans rfl;have s3 : w17.cell? ⟨w.heap.size,3,none⟩ = some (.slice A0_3 l0_3.length c0_3):=(bC_ HTB.out.wit 3).trans rfl;have s4 : w17.cell? ⟨w.heap.size,4,none⟩ = some (.int .i64 a0_4):=(bC_ HTB.out.wit 4).trans rfl;refine ⟨_,rfl,?_⟩)|(at_builtin;refine TB.appS_ HTB.out rfl (.tmp 76) (.tmp 82) rfl (⟨#[99,32,108,111,111,112,32]⟩ ++ ⟨(Lib.itoa a0_4).toArray⟩ ++ ⟨#[10]⟩) rfl rfl (by have h_:=HT.out;(simp only [List.length_append,List.length_cons,List.length_nil,ByteArray.size_append,size_arr,strOfNums_size,List.length_map,List.size_toArray,Nat.zero_add] at *;omega)) ?_;intro v_w18 w18 hp;clear HTB;skip;have HTB:=A0_.mk hp;clear hp;have s0 : w18.cell? ⟨w.heap.size,0,none⟩ = some (.int .i64 1):=(bC_ HTB.out.wit 0).trans rfl;have s1 : w18.cell? ⟨w.heap.size,1,none⟩ = some (.slice A0_1 l0_1.length c0_1):=(bC_ HTB.out.wit 1).trans rfl;have s2 : w18.cell? ⟨w.heap.size,2,none⟩ = some (.slice A0_2 l0_2.length c0_2):=(bC_ HTB.out.wit 2).trans rfl;have s3 : w18.cell? ⟨w.heap.size,3,none⟩ = some (.slice A0_3 l0_3.length c0_3):=(bC_ HTB.out.wit 3).trans rfl;have s4 : w18.cell? ⟨w.heap.size,4,none⟩ = some (.int .i64 a0_4):=(bC_ HTB.out.wit 4).trans rfl))
         (try simp only [Act.put,List.setIfInBounds_toArray,List.set_cons_zero,List.set_cons_succ])
         have hT3:=HT.out
         have htl2 : (traceBytes 1 l0_2 l0_3 a0_4).length = (rowBytes l0_2).length + (rowsBytes l0_3).length + (7 + (Lib.itoa a0_4).length + 1):=by simp [traceBytes,loopBytes,lp];try omega
         clear HT
         have HT : A0_ ((headBytes 1 l0_1).length + (traceBytes 1 l0_2 l0_3 a0_4).length + 2 ≤ 1000000000):=⟨by omega⟩
         clear hT3 htl2
         have hfin : headBytes 1 l0_1 ++ rowBytes l0_2 ++ rowsBytes l0_3 ++ ((⟨#[99,32,108,111,111,112,32]⟩ : ByteArray) ++ ⟨(Lib.itoa a0_4).toArray⟩ ++ ⟨#[10]⟩).data.toList = headBytes 1 l0_1 ++ traceBytes 1 l0_2 l0_3 a0_4:=by simp [traceBytes,loopBytes,lp]
         have hpb:=HTB.out
         rw [hfin] at hpb
         clear HTB hfin
         have HTB:=A0_.mk hpb
         clear hpb
         go_wp2_with (first|(at_builtin;refine TB.appS_ HTB.out rfl (.tmp 84) (.const (.string ⟨#[46,10]⟩)) rfl (⟨#[46,10]⟩) rfl rfl (by have h_:=HT.out;(simp only [List.length_append,List.length_cons,List.length_nil,ByteArray.size_append,size_arr,strOfNums_size,List.length_map,List.size_toArray,Nat.zero_add] at *;omega)) ?_;intro v_w19 w19 hp;clear HTB;skip;have HTB:=A0_.mk hp;clear hp;have s0 : w19.cell? ⟨w.heap.size,0,none⟩ = some (.int .i64 1):=(bC_ HTB.out.wit 0).trans rfl;have s1 : w19.cell? ⟨w.heap.size,1,none⟩ = some (.slice A0_1 l0_1.length c0_1):=(bC_ HTB.out.wit 1).trans rfl;have s2 : w19.cell? ⟨w.heap.size,2,none⟩ = some (.slice A0_2 l0_2.length c0_2):=(bC_ HTB.out.wit 2).trans rfl;have s3 : w19.cell? ⟨w.heap.size,3,none⟩ = some (.slice A0_3 l0_3.length c0_3):=(bC_ HTB.out.wit 3).trans rfl;have s4 : w19.cell? ⟨w.heap.size,4,none⟩ = some (.int .i64 a0_4):=(bC_ HTB.out.wit 4).trans rfl)|go_in)
         repeat (go_quiet (fail);try go_wp2)
         have hfin : (headBytes 1 l0_1 ++ traceBytes 1 l0_2 l0_3 a0_4) ++ (⟨#[46,10]⟩ : ByteArray).data.toList = witBytes 1 l0_1 l0_2 l0_3 a0_4:=by simp [witBytes]
         have hpb:=HTB.out
         rw [hfin] at hpb
         clear HTB hfin
         have HTB:=A0_.mk hpb
         clear hpb
         go_ret
         exact ⟨_,rfl,HTB.out.own,HTB.out.bel⟩
        ·have lpb : decide (a0_4 ≥ 0) = false:=decide_eq_false lp
         have lpc : decide (0 ≤ a0_4) = false:=decide_eq_false lp
         have hT3:=HT.out
         have htl2 : (traceBytes 1 l0_2 l0_3 a0_4).length = (rowBytes l0_2).length + (rowsBytes l0_3).length:=by simp [traceBytes,loopBytes,lp]
         clear HT
         have HT : A0_ ((headBytes 1 l0_1).length + (traceBytes 1 l0_2 l0_3 a0_4).length + 2 ≤ 1000000000):=⟨by omega⟩
         clear hT3 htl2
         have hfin : headBytes 1 l0_1 ++ rowBytes l0_2 ++ rowsBytes l0_3 = headBytes 1 l0_1 ++ traceBytes 1 l0_2 l0_3 a0_4:=by simp [traceBytes,loopBytes,lp]
         have hpb:=HTB.out
         rw [hfin] at hpb
         clear HTB hfin
         have HTB:=A0_.mk hpb
         clear hpb
         go_wp2_with (first|(at_builtin;refine TB.appS_ HTB.out rfl (.tmp 84) (.const (.string ⟨#[46,10]⟩)) rfl (⟨#[46,10]⟩) rfl rfl (by have h_:=HT.out;(simp only [List.length_append,List.length_cons,List.length_nil,ByteArray.size_append,size_arr,strOfNums_size,List.length_map,List.size_toArray,Nat.zero_add] at *;omega)) ?_;intro v_w20 w20 hp;clear HTB;skip;have HTB:=A0_.mk hp;clear hp;have s0 : w20.cell? ⟨w.heap.size,0,none⟩ = some (.int .i64 1):=(bC_ HTB.out.wit 0).trans rfl;have s1 : w20.cell? ⟨w.heap.size,1,none⟩ = some (.slice A0_1 l0_1.length c0_1):=(bC_ HTB.out.wit 1).trans rfl;have s2 : w20.cell? ⟨w.heap.size,2,none⟩ = some (.slice A0_2 l0_2.length c0_2):=(bC_ HTB.out.wit 2).trans rfl;have s3 : w20.cell? ⟨w.heap.size,3,none⟩ = some (.slice A0_3 l0_3.length c0_3):=(bC_ HTB.out.wit 3).trans rfl;have s4 : w20.cell? ⟨w.heap.size,4,none⟩ = some (.int .i64 a0_4):=(bC_ HTB.out.wit 4).trans rfl)|go_in)
         repeat (go_quiet (fail);try go_wp2)
         have hfin : (headBytes 1 l0_1 ++ traceBytes 1 l0_2 l0_3 a0_4) ++ (⟨#[46,10]⟩ : ByteArray).data.toList = witBytes 1 l0_1 l0_2 l0_3 a0_4:=by simp [witBytes]
         have hpb:=HTB.out
         rw [hfin] at hpb
         clear HTB hfin
         have HTB:=A0_.mk hpb
         clear hpb
         go_ret
         exact ⟨_,rfl,HTB.out.own,HTB.out.bel⟩
    ·have st1b : (a0_0 == 1) = false:=beq_eq_false_iff_ne.mpr st1
     go_wp2_with (first|(at_builtin;refine TB.appS_ HTB.out rfl (.tmp 84) (.const (.string ⟨#[46,10]⟩)) rfl (⟨#[46,10]⟩) rfl rfl (by have h_:=HT.out;(simp only [List.length_append,List.length_cons,List.length_nil,ByteArray.size_append,size_arr,strOfNums_size,List.length_map,List.size_toArray,Nat.zero_add] at *;omega)) ?_;intro v_w21 w21 hp;clear HTB;skip;have HTB:=A0_.mk hp;clear hp;have s0 : w21.cell? ⟨w.heap.size,0,none⟩ = some (.int .i64 a0_0):=(bC_ HTB.out.wit 0).trans rfl;have s1 : w21.cell? ⟨w.heap.size,1,none⟩ = some (.slice A0_1 l0_1.length c0_1):=(bC_ HTB.out.wit 1).trans rfl;have s2 : w21.cell? ⟨w.heap.size,2,none⟩ = some (.slice A0_2 l0_2.length c0_2):=(bC_ HTB.out.wit 2).trans rfl;have s3 : w21.cell? ⟨w.heap.size,3,none⟩ = some (.slice A0_3 l0_3.length c0_3):=(bC_ HTB.out.wit 3).trans rfl;have s4 : w21.cell? ⟨w.heap.size,4,none⟩ = some (.int .i64 a0_4):=(bC_ HTB.out.wit 4).trans rfl)|go_in)
     repeat (go_quiet (fail);try go_wp2)
     have hfin : headBytes a0_0 l0_1 ++ (⟨#[46,10]⟩ : ByteArray).data.toList = witBytes a0_0 l0_1 l0_2 l0_3 a0_4:=by simp [witBytes,traceBytes,st1]
     have hpb:=HTB.out
     rw [hfin] at hpb
     clear HTB hfin
     have HTB:=A0_.mk hpb
     clear hpb
     go_ret
     exact ⟨_,rfl,HTB.out.own,HTB.out.bel⟩
end Go.Proofs.YtojepjkpnponoaaDoor.Stim

