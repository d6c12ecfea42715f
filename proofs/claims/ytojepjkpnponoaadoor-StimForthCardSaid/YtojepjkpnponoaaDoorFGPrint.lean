import Derived.Test.YtojepjkpnponoaaDoorFStim6
import Derived.Test.YtojepjkpnponoaaDoorFGDigits
import Derived.Test.YtojepjkpnponoaaDoorFBuild
import Derived.Test.YtojepjkpnponoaaDoorFPureK
set_option linter.unusedSimpArgs false
namespace Go.Proofs.YtojepjkpnponoaaDoor.Stim
open Go Go.RowKit Go.Proofs.YtojepjkpnponoaaDoorW.PrintWords Go.Proofs.YtojepjkpnponoaaDoorW.PrintLast Go.Proofs.YtojepjkpnponoaaDoorW.PrintMore
set_option linter.unusedVariables false
def propBytes (first : Bool) (p : S83) : List UInt8:=(if first then [] else [32]) ++ (UInt8.ofNat p.f0.toNat :: Lib.itoa p.f1)
def propsBytes (l : List S83) : List UInt8:=l.zipIdx.flatMap fun x => propBytes (x.2 == 0) x.1
theorem propsBytes_snoc (l : List S83) (p : S83) : propsBytes (l ++ [p]) = propsBytes l ++ propBytes (l.length == 0) p:=by
 simp [propsBytes,List.zipIdx_append]
def rowBytes (r : List Bool) : List UInt8:=(r.map fun b => if b then 49 else 48) ++ [10]
def rowsBytes (l : List (List Bool)) : List UInt8:=l.flatMap rowBytes
theorem rowsBytes_snoc (l : List (List Bool)) (r : List Bool) : rowsBytes (l ++ [r]) = rowsBytes l ++ rowBytes r:=by
 simp [rowsBytes]
def loopBytes (n : Int) : List UInt8:=if n ≥ 0 then [99,32,108,111,111,112,32] ++ Lib.itoa n ++ [10] else []
def traceBytes (st : Int) (init : List Bool) (ins : List (List Bool)) (loop : Int) : List UInt8:=if st = 1 then rowBytes init ++ rowsBytes ins ++ loopBytes loop else []
def headBytes (st : Int) (props : List S83) : List UInt8:=Lib.itoa st ++ [10] ++ propsBytes props ++ [10]
def witBytes (st : Int) (props : List S83) (init : List Bool) (ins : List (List Bool)) (loop : Int) : List UInt8:=headBytes st props ++ traceBytes st init ins loop ++ [46,10]
def isI64 (n : Int) : Bool:=decide (-9223372036854775808 ≤ n) && decide (n ≤ 9223372036854775807)
def propOK (p : S83) : Bool:=decide (0 ≤ p.f0) && decide (p.f0 < 256) && isI64 p.f1
def printOK (st : Int) (props : List S83) (init : List Bool) (ins : List (List Bool)) (loop : Int) : Bool :=
 isI64 st && isI64 loop && props.all propOK && decide (init.length < 4294967296) && ins.all (fun r => decide (r.length < 4294967296)) && decide ((witBytes st props init ins loop).length ≤ 1000000000) && decide (props.length < 1000000000) && decide (ins.length < 1000000000)
def stim_Print.f (a0_0 : Int) (l0_1 : List (S83)) (l0_2 : List Bool) (l0_3 : List (List Bool)) (a0_4 : Int) (a1 : Int) (a2 : Int) : Option (ByteArray × Int) :=
 if l0_1.length < 140737488355328 ∧ l0_2.length < 140737488355328 ∧ l0_3.length < 140737488355328 then
  (if checkSpec a0_0 l0_1 l0_2 l0_3 a0_4 a1 a2 ≠ 0 then some (⟨#[]⟩,checkSpec a0_0 l0_1 l0_2 l0_3 a0_4 a1 a2)
  else if printOK a0_0 l0_1 l0_2 l0_3 a0_4 = true then
   (if (witBytes a0_0 l0_1 l0_2 l0_3 a0_4).length > 262144 then some (⟨#[]⟩,2) else some (⟨(witBytes a0_0 l0_1 l0_2 l0_3 a0_4).toArray⟩,0))
  else none)
 else none
theorem strOf_row (l : List Bool) : (strOfNums (l.map digitOf ++ [10])).data.toList = rowBytes l:=by
 rw [strOfNums_data]
 simp only [List.map_append,List.map_map,rowBytes,List.map_cons,List.map_nil]
 congr 1
 apply List.map_congr_left
 intro b _
 cases b <;> rfl
theorem rowBytes_length (l : List Bool) : (rowBytes l).length = l.length + 1:=by simp [rowBytes]
theorem propsBytes_take (l : List S83) (n : Nat) : (propsBytes (l.take n)).length ≤ (propsBytes l).length:=by
 conv => rhs;rw [← List.take_append_drop n l]
 simp only [propsBytes,List.zipIdx_append,List.flatMap_append,List.length_append]
 omega
theorem rowsBytes_take (l : List (List Bool)) (n : Nat) : (rowsBytes (l.take n)).length ≤ (rowsBytes l).length:=by
 conv => rhs;rw [← List.take_append_drop n l]
 simp only [rowsBytes,List.flatMap_append,List.length_append]
 omega
theorem itoa_f {n : Int} (h : isI64 n = true) : strconv_Itoa.f n = some ⟨(Lib.itoa n).toArray⟩:=by
 unfold strconv_Itoa.f
 simp only [isI64,Bool.and_eq_true,decide_eq_true_eq] at h
 rw [if_pos h]
theorem printOK_open {st : Int} {props : List S83} {init : List Bool} {ins : List (List Bool)} {loop : Int} (h : printOK st props init ins loop = true) :
  isI64 st = true ∧ isI64 loop = true ∧ (∀ p ∈ props,propOK p = true) ∧ init.length < 4294967296 ∧ (∀ r ∈ ins,r.length < 4294967296) ∧ (witBytes st props init ins loop).length ≤ 1000000000 ∧ props.length < 1000000000 ∧ ins.length < 1000000000:=by
 simp only [printOK,Bool.and_eq_true,decide_eq_true_eq,List.all_eq_true] at h
 obtain ⟨⟨⟨⟨⟨⟨⟨h1,h2⟩,h3⟩,h4⟩,h5⟩,h6⟩,h7⟩,h8⟩:=h
 exact ⟨h1,h2,h3,h4,h5,h6,h7,h8⟩
theorem size_arr (a : Array UInt8) : (⟨a⟩ : ByteArray).size = a.size:=rfl
set_option maxHeartbeats 4000000 in
set_option maxRecDepth 100000 in
theorem stim_Print.calls (a0_0 : Int) (A0_1 : Option Addr) (c0_1 : Nat) (l0_1 : List (S83)) (A0_2 : Option Addr) (c0_2 : Nat) (l0_2 : List Bool) (A0_3 : Option Addr) (c0_3 : Nat) (l0_3 : List (List Bool)) (a0_4 : Int) (a1 : Int) (a2 : Int) (r1 : ByteArray) (r2 : Int) (w : World) (hG : GV w) (hr0_1 : Kd.C k83 w A0_1 l0_1.length l0_1) (hc0_1 : l0_1.length ≤ c0_1) (hr0_2 : Kd.C Kd.bool w A0_2 l0_2.length l0_2) (hc0_2 : l0_2.length ≤ c0_2) (hr0_3 : Kd.C (Kd.slice 4 Kd.bool) w A0_3 l0_3.length l0_3) (hc0_3 : l0_3.length ≤ c0_3) (h : stim_Print.f a0_0 l0_1 l0_2 l0_3 a0_4 a1 a2 = some (r1,r2)) :
  Calls Tryd.prog 13 #[.agg #[.int .i64 a0_0,.slice A0_1 l0_1.length c0_1,.slice A0_2 l0_2.length c0_2,.slice A0_3 l0_3.length c0_3,.int .i64 a0_4],.int .i64 a1,.int .i64 a2] w fun e w' => e = .returned (.tuple #[.string r1,.int .i64 r2]) ∧ Below w.heap.size w w':=by
 have hu28:=Tryd.underlying28
 have hu26:=Tryd.underlying26
 have hu83:=Tryd.underlying83
 have HG:=A0_.mk hG
 have HR1:=A0_.mk hr0_1
 have HR2:=A0_.mk hr0_2
 have HR3:=A0_.mk hr0_3
 have HC1:=A0_.mk hc0_1
 have HC2:=A0_.mk hc0_2
 have HC3:=A0_.mk hc0_3
 clear hG hr0_1 hr0_2 hr0_3 hc0_1 hc0_2 hc0_3
 unfold stim_Print.f at h
 have hbd : l0_1.length < 140737488355328 ∧ l0_2.length < 140737488355328 ∧ l0_3.length < 140737488355328:=by
  refine Classical.byContradiction fun hn => ?_
  rw [if_neg hn] at h
  cases h
 rw [if_pos hbd] at h
 obtain ⟨K_,hK_⟩:=check_ev a0_0 l0_1 l0_2 l0_3 a0_4 a1 a2 hbd.2.1 hbd.2.2
 have he:=hK_ K_ (Nat.le_refl _)
 clear hK_ hbd
 generalize checkSpec a0_0 l0_1 l0_2 l0_3 a0_4 a1 a2 = e at he h
 dsimp only at he
 have hk0:=blk_new w (.cells #[.int .i64 a0_0,.slice A0_1 l0_1.length c0_1,.slice A0_2 l0_2.length c0_2,.slice A0_3 l0_3.length c0_3,.int .i64 a0_4] 28)
 have hb0 : Below w.heap.size w (w.alloc (.cells #[.int .i64 a0_0,.slice A0_1 l0_1.length c0_1,.slice A0_2 l0_2.length c0_2,.slice A0_3 l0_3.length c0_3,.int .i64 a0_4] 28)):=eA_ (Below.refl _ _) _
 have HE:=A0_.mk he
 have HK0:=A0_.mk hk0
 have HB0:=A0_.mk hb0
 clear he hk0 hb0
 go_enter Tryd.func13,Tryd.ntmps13
 go_upto_region 2 with (first|((with_reducible refine gate_callee (f:=15) rfl ?_);refine goesL_ (some 17) rfl rfl Tryd.func15 (by kernel_rfl) rfl #[.agg #[.int .i64 a0_0,.slice A0_1 l0_1.length c0_1,.slice A0_2 l0_2.length c0_2,.slice A0_3 l0_3.length c0_3,.int .i64 a0_4],.int .i64 a1,.int .i64 a2] rfl (by (try simp only [List.map_toArray,List.map_cons,List.map_nil]);first|done|rfl) ?_;(with_reducible refine (stim_Check.calls K_ a0_0 A0_1 c0_1 l0_1 A0_2 c0_2 l0_2 A0_3 c0_3 l0_3 a0_4 a1 a2 e _ (Kd.C_below HR1.out HB0.out) HC1.out (Kd.C_below HR2.out HB0.out) HC2.out (Kd.C_below HR3.out HB0.out) HC3.out HE.out).mono ?_);rintro e_ w1 ⟨rfl,hb⟩;have n0_:=A0_.mk (blk_below HK0.out hb);have n1_:=A0_.mk (HB0.out.trans (hb.mono HB0.out.size));clear HK0 HB0 HE hb;have HK0:=n0_;have HB0:=n1_;clear n0_ n1_;refine ⟨_,rfl,?_⟩))
 repeat (go_quiet (fail);try go_wp2)
 by_cases c1 : e = 0
 ·subst c1
  rw [if_neg (by simp)] at h
  split at h
  ·rename_i hok
   have HH:=A0_.mk h
   have HOK:=A0_.mk hok
   clear h hok
   go_upto_region 5 with fail
   have hpb:=PB.new HB0.out HK0.out
   generalize w1.heap.size = b at hpb ⊢
   generalize w1.alloc (.cells #[.pointer none,.slice none 0 0] 76) = w2 at hpb ⊢
   have HPB:=A0_.mk hpb
   clear HK0 HB0 hpb
   obtain ⟨hi0,hi4,hps,hin,hrs,htot,hpl,hil⟩:=printOK_open HOK.out
   have HI0:=A0_.mk hi0
   have HI4:=A0_.mk hi4
   have HPS:=A0_.mk hps
   have HIN:=A0_.mk hin
   have HRS:=A0_.mk hrs
   have HTOT:=A0_.mk htot
   have HT : A0_ ((Lib.itoa a0_0).length + 1 ≤ 1000000000):=⟨by have h_:=htot;simp only [witBytes,headBytes,List.length_append,List.length_cons,List.length_nil] at h_;omega⟩
   have hcat : ¬ 9223372036854775807 < (Lib.itoa a0_0).length + 1:=by have:=HT.out;omega
   clear hi0 hi4 hps hin hrs htot
   have s0 : w2.cell? ⟨w.heap.size,0,none⟩ = some (.int .i64 a0_0):=(bC_ HPB.out.wit 0).trans rfl
   have s1 : w2.cell? ⟨w.heap.size,1,none⟩ = some (.slice A0_1 l0_1.length c0_1):=(bC_ HPB.out.wit 1).trans rfl
   have s2 : w2.cell? ⟨w.heap.size,2,none⟩ = some (.slice A0_2 l0_2.length c0_2):=(bC_ HPB.out.wit 2).trans rfl
   have s3 : w2.cell? ⟨w.heap.size,3,none⟩ = some (.slice A0_3 l0_3.length c0_3):=(bC_ HPB.out.wit 3).trans rfl
   have s4 : w2.cell? ⟨w.heap.size,4,none⟩ = some (.int .i64 a0_4):=(bC_ HPB.out.wit 4).trans rfl
   go_upto_region 6 with (first|((with_reducible refine gate_callee (f:=34) rfl ?_);refine goesL_ (some 23) rfl rfl Tryd.func34 (by kernel_rfl) rfl #[.int .i64 a0_0] rfl (by (try simp only [List.map_toArray,List.map_cons,List.map_nil]);first|done|rfl) ?_;(with_reducible refine (strconv_Itoa.calls a0_0 ⟨(Lib.itoa a0_0).toArray⟩ _ (GV_below HG.out HPB.out.bel) (itoa_f HI0.out)).mono ?_);rintro e_ w11 ⟨rfl,hb⟩;have n0_:=A0_.mk (HPB.out.below hb);clear HPB;have HPB:=n0_;clear n0_ hb;have s0 : w11.cell? ⟨w.heap.size,0,none⟩ = some (.int .i64 a0_0):=(bC_ HPB.out.wit 0).trans rfl;have s1 : w11.cell? ⟨w.heap.size,1,none⟩ = some (.slice A0_1 l0_1.length c0_1):=(bC_ HPB.out.wit 1).trans rfl;have s2 : w11.cell? ⟨w.heap.size,2,none⟩ = some (.slice A0_2 l0_2.length c0_2):=(bC_ HPB.out.wit 2).trans rfl;have s3 : w11.cell? ⟨w.heap.size,3,none⟩ = some (.slice A0_3 l0_3.length c0_3):=(bC_ HPB.out.wit 3).trans rfl;have s4 : w11.cell? ⟨w.heap.size,4,none⟩ = some (.int .i64 a0_4):=(bC_ HPB.out.wit 4).trans rfl;refine ⟨_,rfl,?_⟩)|((with_reducible refine gate_callee (f:=33) rfl ?_);refine goesL_ (some 25) rfl rfl Tryd.func33 (by kernel_rfl) rfl #[.pointer (some ⟨b,0,none⟩),.string (⟨(Lib.itoa a0_0).toArray⟩ ++ ⟨#[10]⟩)] rfl (by (try simp only [List.map_toArray,List.map_cons,List.map_nil]);first|done|rfl) ?_;(with_reducible refine (PB.writeS HPB.out (⟨(Lib.itoa a0_0).toArray⟩ ++ ⟨#[10]⟩) (by have h_:=HT.out;(simp only [List.length_append,List.length_cons,List.length_nil,ByteArray.size_append,size_arr,strOfNums_size,List.length_map,List.size_toArray,Nat.zero_add] at *;omega))).mono ?_);rintro e_ w12 ⟨v_,rfl,hp,ho⟩;rw [show ([] : List UInt8) ++ ((⟨(Lib.itoa a0_0).toArray⟩ : ByteArray) ++ ⟨#[10]⟩).data.toList = Lib.itoa a0_0 ++ [10] from by simp] at hp;clear HPB;have HPB:=A0_.mk hp;clear hp ho;have s0 : w12.cell? ⟨w.heap.size,0,none⟩ = some (.int .i64 a0_0):=(bC_ HPB.out.wit 0).trans rfl;have s1 : w12.cell? ⟨w.heap.size,1,none⟩ = some (.slice A0_1 l0_1.length c0_1):=(bC_ HPB.out.wit 1).trans rfl;have s2 : w12.cell? ⟨w.heap.size,2,none⟩ = some (.slice A0_2 l0_2.length c0_2):=(bC_ HPB.out.wit 2).trans rfl;have s3 : w12.cell? ⟨w.heap.size,3,none⟩ = some (.slice A0_3 l0_3.length c0_3):=(bC_ HPB.out.wit 3).trans rfl;have s4 : w12.cell? ⟨w.heap.size,4,none⟩ = some (.int .i64 a0_4):=(bC_ HPB.out.wit 4).trans rfl;refine ⟨_,rfl,?_⟩))
   clear HT
   (try simp only [Act.put,List.setIfInBounds_toArray,List.set_cons_zero,List.set_cons_succ])
   go_wp2
   repeat (go_quiet (fail);try go_wp2)
   (try simp only [Act.put,List.setIfInBounds_toArray,List.set_cons_zero,List.set_cons_succ])
   go_loopg [29] (l0_1.length + 1) (fun kq v w' => ∃ n : Nat,v = .int .i64 n ∧ A0_ (n + kq = l0_1.length + 1) ∧ A0_ (n ≤ l0_1.length) ∧ A0_ (PB w w' #[.int .i64 a0_0,.slice A0_1 l0_1.length c0_1,.slice A0_2 l0_2.length c0_2,.slice A0_3 l0_3.length c0_3,.int .i64 a0_4] b (Lib.itoa a0_0 ++ [10] ++ propsBytes (l0_1.take n))))
   case atStart => exact ⟨0,rfl,⟨by omega⟩,⟨by omega⟩,⟨by rw [show Lib.itoa a0_0 ++ [10] ++ propsBytes (l0_1.take 0) = Lib.itoa a0_0 ++ [10] from by simp [propsBytes]];exact HPB.out⟩⟩
   case round =>
    try clear s0
    try clear s1
    try clear s2
    try clear s3
    try clear s4
    clear hcat HPB
    obtain ⟨n,rfl,HK,HN,HPB⟩:=hrel
    cases gk with
    |zero =>
     have h1:=HK.out
     have h2:=HN.out
     omega
    |succ k1 =>
     have hlp:=hpl
     by_cases c4 : n < l0_1.length
     ·have c4b0 : decide ((n : Int) < (l0_1.length : Int)) = true:=decide_eq_true (by omega)
      have p238 : 0 ≤ (n : Int):=by omega
      have q238 : (n : Int) < (l0_1.length : Int):=by omega
      obtain ⟨ad238,e238,hx238_0,hx238_1⟩:=at_T83 HR1.out (n : Int) p238 q238
      cases e238
      simp only [Int.toNat_natCast] at hx238_0 hx238_1
      replace hx238_0:=(HPB.out.bel.cell (World.block_lt_of_cell? w _ hx238_0)).trans hx238_0
      replace hx238_1:=(HPB.out.bel.cell (World.block_lt_of_cell? w _ hx238_1)).trans hx238_1
      replace p238:=eq_true p238
      replace q238:=eq_true q238
      have hrd : rd_T83 l0_1 (n : Int) = l0_1[n]:=by simp [rd_T83,c4]
      have hpo : propOK (rd_T83 l0_1 (n : Int)) = true:=by rw [hrd];exact HPS.out _ (List.getElem_mem c4)
      have htake : l0_1.take (n + 1) = l0_1.take n ++ [rd_T83 l0_1 (n : Int)]:=by rw [hrd];exact List.take_succ_eq_append_getElem c4
      have hpre : (propsBytes (l0_1.take (n + 1))).length ≤ (propsBytes l0_1).length:=propsBytes_take l0_1 (n + 1)
      have hT : (Lib.itoa a0_0).length + 1 + (propsBytes l0_1).length ≤ 1000000000:=by have h_:=HTOT.out;simp only [witBytes,headBytes,List.length_append,List.length_cons,List.length_nil] at h_;omega
      rw [htake,propsBytes_snoc] at hpre
      generalize rd_T83 l0_1 (n : Int) = p at *
      obtain ⟨pk,pa⟩:=p
      dsimp only at *
      simp only [propOK,Bool.and_eq_true,decide_eq_true_eq] at hpo
      obtain ⟨⟨hk0,hk1⟩,hka⟩:=hpo
      obtain ⟨c,rfl⟩ : ∃ c : UInt8,pk = (c.toNat : Int):=⟨UInt8.ofNat pk.toNat,by simp;omega⟩
      have HKA:=A0_.mk hka
      have hlt : (l0_1.take n).length = n:=by simp;omega
      rw [hlt] at hpre
      have HT : A0_ ((Lib.itoa a0_0).length + 1 + ((propsBytes (l0_1.take n)).length + (propBytes (n == 0) ⟨(c.toNat : Int),pa⟩).length) ≤ 1000000000):=⟨by simp only [List.length_append] at hpre;omega⟩
      have HTK:=A0_.mk htake
      have HLT:=A0_.mk hlt
      clear hrd htake hpre hT hk0 hk1 hka hlt
      go_upto_region 9 with fail
      have hbk:=blk_new wr (.cells #[.int .u8 (c.toNat : Int),.int .i64 pa] 83)
      have hpb:=PB.alloc HPB.out (.cells #[.int .u8 (c.toNat : Int),.int .i64 pa] 83)
      generalize wr.heap.size = g11 at hbk ⊢
      generalize wr.alloc (.cells #[.int .u8 (c.toNat : Int),.int .i64 pa] 83) = w20 at hbk hpb ⊢
      clear HPB hx238_0 hx238_1
      have HPB:=A0_.mk hpb
      have HX:=A0_.mk hbk
      clear hpb hbk
      have s0 : w20.cell? ⟨w.heap.size,0,none⟩ = some (.int .i64 a0_0):=(bC_ HPB.out.wit 0).trans rfl
      have s1 : w20.cell? ⟨w.heap.size,1,none⟩ = some (.slice (some ad238) l0_1.length c0_1):=(bC_ HPB.out.wit 1).trans rfl
      have s2 : w20.cell? ⟨w.heap.size,2,none⟩ = some (.slice A0_2 l0_2.length c0_2):=(bC_ HPB.out.wit 2).trans rfl
      have s3 : w20.cell? ⟨w.heap.size,3,none⟩ = some (.slice A0_3 l0_3.length c0_3):=(bC_ HPB.out.wit 3).trans rfl
      have s4 : w20.cell? ⟨w.heap.size,4,none⟩ = some (.int .i64 a0_4):=(bC_ HPB.out.wit 4).trans rfl
      have x0 : w20.cell? ⟨g11,0,none⟩ = some (.int .u8 (c.toNat : Int)):=(bC_ HX.out 0).trans rfl
      have x1 : w20.cell? ⟨g11,1,none⟩ = some (.int .i64 pa):=(bC_ HX.out 1).trans rfl
      by_cases hn0 : n = 0
      ·skip
       have hn1 : decide ((n : Int) > 0) = false:=decide_eq_false (by omega)
       have hn2 : decide (0 < n) = false:=decide_eq_false (by omega)
       have hn3 : (n == 0) = true:=by simp [hn0]
       have hpl2 : (propBytes (n == 0) ⟨(c.toNat : Int),pa⟩).length = 0 + 1 + (Lib.itoa pa).length:=by rw [hn3];simp [propBytes];try omega
       have hT2:=HT.out
       rw [hpl2] at hT2
       clear HT
       have HT:=A0_.mk hT2
       clear hT2 hpl2
       go_upto_region 13 with (first|((with_reducible refine gate_callee (f:=35) rfl ?_);refine goesL_ (some 39) rfl rfl Tryd.func35 (by kernel_rfl) rfl #[.pointer (some ⟨b,0,none⟩),.int .u8 ((c.toNat : Int))] rfl (by (try simp only [List.map_toArray,List.map_cons,List.map_nil]);first|done|rfl) ?_;(with_reducible refine (PB.writeB HPB.out (c) ((c.toNat : Int)) rfl (by have h_:=HT.out;(simp only [List.length_append,List.length_cons,List.length_nil,ByteArray.size_append,size_arr,strOfNums_size,List.length_map,List.size_toArray,Nat.zero_add] at *;omega))).mono ?_);rintro e_ w31 ⟨rfl,hp,ho⟩;have nx_:=A0_.mk (ho _ _ HX.out (fun e => PB.ne_of HPB.out HX.out (by decide) (by injection e)) (fun c fz e => by injection e with _ e;cases e));clear HX;have HX:=nx_;clear nx_;have x0 : w31.cell? ⟨g11,0,none⟩ = some (.int .u8 (c.toNat : Int)):=(bC_ HX.out 0).trans rfl;have x1 : w31.cell? ⟨g11,1,none⟩ = some (.int .i64 pa):=(bC_ HX.out 1).trans rfl;clear HPB;have HPB:=A0_.mk hp;clear hp ho;have s0 : w31.cell? ⟨w.heap.size,0,none⟩ = some (.int .i64 a0_0):=(bC_ HPB.out.wit 0).trans rfl;have s1 : w31.cell? ⟨w.heap.size,1,none⟩ = some (.slice (some ad238) l0_1.length c0_1):=(bC_ HPB.out.wit 1).trans rfl;have s2 : w31.cell? ⟨w.heap.size,2,none⟩ = some (.slice A0_2 l0_2.length c0_2):=(bC_ HPB.out.wit 2).trans rfl;have s3 : w31.cell? ⟨w.heap.size,3,none⟩ = some (.slice A0_3 l0_3.length c0_3):=(bC_ HPB.out.wit 3).trans rfl;have s4 : w31.cell? ⟨w.heap.size,4,none⟩ = some (.int .i64 a0_4):=(bC_ HPB.out.wit 4).trans rfl;refine ⟨_,rfl,?_⟩)|((with_reducible refine gate_callee (f:=34) rfl ?_);refine goesL_ (some 42) rfl rfl Tryd.func34 (by kernel_rfl) rfl #[.int .i64 pa] rfl (by (try simp only [List.map_toArray,List.map_cons,List.map_nil]);first|done|rfl) ?_;(with_reducible refine (strconv_Itoa.calls pa ⟨(Lib.itoa pa).toArray⟩ _ (GV_below HG.out HPB.out.bel) (itoa_f HKA.out)).mono ?_);rintro e_ w32 ⟨rfl,hb⟩;have n0_:=A0_.mk (HPB.out.below hb);have nx_:=A0_.mk (blk_below HX.out hb);clear HX;have HX:=nx_;clear nx_;have x0 : w32.cell? ⟨g11,0,none⟩ = some (.int .u8 (c.toNat : Int)):=(bC_ HX.out 0).trans rfl;have x1 : w32.cell? ⟨g11,1,none⟩ = some (.int .i64 pa):=(bC_ HX.out 1).trans rfl;clear HPB;have HPB:=n0_;clear n0_ hb;have s0 : w32.cell? ⟨w.heap.size,0,none⟩ = some (.int .i64 a0_0):=(bC_ HPB.out.wit 0).trans rfl;have s1 : w32.cell? ⟨w.heap.size,1,none⟩ = some (.slice (some ad238) l0_1.length c0_1):=(bC_ HPB.out.wit 1).trans rfl;have s2 : w32.cell? ⟨w.heap.size,2,none⟩ = some (.slice A0_2 l0_2.length c0_2):=(bC_ HPB.out.wit 2).trans rfl;have s3 : w32.cell? ⟨w.heap.size,3,none⟩ = some (.slice A0_3 l0_3.length c0_3):=(bC_ HPB.out.wit 3).trans rfl;have s4 : w32.cell? ⟨w.heap.size,4,none⟩ = some (.int .i64 a0_4):=(bC_ HPB.out.wit 4).trans rfl;refine ⟨_,rfl,?_⟩)|((with_reducible refine gate_callee (f:=33) rfl ?_);refine goesL_ (some 43) rfl rfl Tryd.func33 (by kernel_rfl) rfl #[.pointer (some ⟨b,0,none⟩),.string (⟨(Lib.itoa pa).toArray⟩)] rfl (by (try simp only [List.map_toArray,List.map_cons,List.map_nil]);first|done|rfl) ?_;(with_reducible refine (PB.writeS HPB.out (⟨(Lib.itoa pa).toArray⟩) (by have h_:=HT.out;(simp only [List.length_append,List.length_cons,List.length_nil,ByteArray.size_append,size_arr,strOfNums_size,List.length_map,List.size_toArray,Nat.zero_add] at *;omega))).mono ?_);rintro e_ w33 ⟨v_,rfl,hp,ho⟩;skip;have nx_:=A0_.mk (ho _ _ HX.out (fun e => PB.ne_of HPB.out HX.out (by decide) (by injection e)) (fun c fz e => by injection e with _ e;cases e));clear HX;have HX:=nx_;clear nx_;have x0 : w33.cell? ⟨g11,0,none⟩ = some (.int .u8 (c.toNat : Int)):=(bC_ HX.out 0).trans rfl;have x1 : w33.cell? ⟨g11,1,none⟩ = some (.int .i64 pa):=(bC_ HX.out 1).trans rfl;clear HPB;have HPB:=A0_.mk hp;clear hp ho;have s0 : w33.cell? ⟨w.heap.size,0,none⟩ = some (.int .i64 a0_0):=(bC_ HPB.out.wit 0).trans rfl;have s1 : w33.cell? ⟨w.heap.size,1,none⟩ = some (.slice (some ad238) l0_1.length c0_1):=(bC_ HPB.out.wit 1).trans rfl;have s2 : w33.cell? ⟨w.heap.size,2,none⟩ = some (.slice A0_2 l0_2.length c0_2):=(bC_ HPB.out.wit 2).trans rfl;have s3 : w33.cell? ⟨w.heap.size,3,none⟩ = some (.slice A0_3 l0_3.length c0_3):=(bC_ HPB.out.wit 3).trans rfl;have s4 : w33.cell? ⟨w.heap.size,4,none⟩ = some (.int .i64 a0_4):=(bC_ HPB.out.wit 4).trans rfl;refine ⟨_,rfl,?_⟩))
       (try simp only [Act.put,List.setIfInBounds_toArray,List.set_cons_zero,List.set_cons_succ])
       have hfin : Lib.itoa a0_0 ++ [10] ++ propsBytes (l0_1.take n) ++ [c] ++ (⟨(Lib.itoa pa).toArray⟩ : ByteArray).data.toList = Lib.itoa a0_0 ++ [10] ++ propsBytes (l0_1.take (n + 1)):=by rw [HTK.out,propsBytes_snoc,HLT.out,hn3];simp [propBytes]
       have hpb:=HPB.out
       rw [hfin] at hpb
       clear HPB hfin
       have HPB:=A0_.mk hpb
       clear hpb
       go_wp2
       repeat (go_quiet (fail);try go_wp2)
       go_roundg k1
       case measure => omega
       case rel => exact ⟨n + 1,by go_num,⟨by have:=HK.out;omega⟩,⟨by omega⟩,HPB⟩
      ·skip
       have hn1 : decide ((n : Int) > 0) = true:=decide_eq_true (by omega)
       have hn2 : decide (0 < n) = true:=decide_eq_true (by omega)
       have hn4 : 0 < n:=by omega
       have hn3 : (n == 0) = false:=by simp [hn0]
       have hpl2 : (propBytes (n == 0) ⟨(c.toNat : Int),pa⟩).length = 1 + 1 + (Lib.itoa pa).length:=by rw [hn3];simp [propBytes];try omega
       have hT2:=HT.out
       rw [hpl2] at hT2
       clear HT
       have HT:=A0_.mk hT2
       clear hT2 hpl2
       go_upto_region 13 with (first|((with_reducible refine gate_callee (f:=35) rfl ?_);refine goesL_ (some 36) rfl rfl Tryd.func35 (by kernel_rfl) rfl #[.pointer (some ⟨b,0,none⟩),.int .u8 (32)] rfl (by (try simp only [List.map_toArray,List.map_cons,List.map_nil]);first|done|rfl) ?_;(with_reducible refine (PB.writeB HPB.out (32) (32) rfl (by have h_:=HT.out;(simp only [List.length_append,List.length_cons,List.length_nil,ByteArray.size_append,size_arr,strOfNums_size,List.length_map,List.size_toArray,Nat.zero_add] at *;omega))).mono ?_);rintro e_ w31 ⟨rfl,hp,ho⟩;have nx_:=A0_.mk (ho _ _ HX.out (fun e => PB.ne_of HPB.out HX.out (by decide) (by injection e)) (fun c fz e => by injection e with _ e;cases e));clear HX;have HX:=nx_;clear nx_;have x0 : w31.cell? ⟨g11,0,none⟩ = some (.int .u8 (c.toNat : Int)):=(bC_ HX.out 0).trans rfl;have x1 : w31.cell? ⟨g11,1,none⟩ = some (.int .i64 pa):=(bC_ HX.out 1).trans rfl;clear HPB;have HPB:=A0_.mk hp;clear hp ho;have s0 : w31.cell? ⟨w.heap.size,0,none⟩ = some (.int .i64 a0_0):=(bC_ HPB.out.wit 0).trans rfl;have s1 : w31.cell? ⟨w.heap.size,1,none⟩ = some (.slice (some ad238) l0_1.length c0_1):=(bC_ HPB.out.wit 1).trans rfl;have s2 : w31.cell? ⟨w.heap.size,2,none⟩ = some (.slice A0_2 l0_2.length c0_2):=(bC_ HPB.out.wit 2).trans rfl;have s3 : w31.cell? ⟨w.heap.size,3,none⟩ = some (.slice A0_3 l0_3.length c0_3):=(bC_ HPB.out.wit 3).trans rfl;have s4 : w31.cell? ⟨w.heap.size,4,none⟩ = some (.int .i64 a0_4):=(bC_ HPB.out.wit 4).trans rfl;refine ⟨_,rfl,?_⟩)|((with_reducible refine gate_callee (f:=35) rfl ?_);refine goesL_ (some 39) rfl rfl Tryd.func35 (by kernel_rfl) rfl #[.pointer (some ⟨b,0,none⟩),.int .u8 ((c.toNat : Int))] rfl (by (try simp only [List.map_toArray,List.map_cons,List.map_nil]);first|done|rfl) ?_;(with_reducible refine (PB.writeB HPB.out (c) ((c.toNat : Int)) rfl (by have h_:=HT.out;(simp only [List.length_append,List.length_cons,List.length_nil,ByteArray.size_append,size_arr,strOfNums_size,List.length_map,List.size_toArray,Nat.zero_add] at *;omega))).mono ?_);rintro e_ w32 ⟨rfl,hp,ho⟩;have nx_:=A0_.mk (ho _ _ HX.out (fun e => PB.ne_of HPB.out HX.out (by decide) (by injection e)) (fun c fz e => by injection e with _ e;cases e));clear HX;have HX:=nx_;clear nx_;have x0 : w32.cell? ⟨g11,0,none⟩ = some (.int .u8 (c.toNat : Int)):=(bC_ HX.out 0).trans rfl;have x1 : w32.cell? ⟨g11,1,none⟩ = some (.int .i64 pa):=(bC_ HX.out 1).trans rfl;clear HPB;have HPB:=A0_.mk hp;clear hp ho;have s0 : w32.cell? ⟨w.heap.size,0,none⟩ = some (.int .i64 a0_0):=(bC_ HPB.out.wit 0).trans rfl;have s1 : w32.cell? ⟨w.heap.size,1,none⟩ = some (.slice (some ad238) l0_1.length c0_1):=(bC_ HPB.out.wit 1).trans rfl;have s2 : w32.cell? ⟨w.heap.size,2,none⟩ = some (.slice A0_2 l0_2.length c0_2):=(bC_ HPB.out.wit 2).trans rfl;have s3 : w32.cell? ⟨w.heap.size,3,none⟩ = some (.slice A0_3 l0_3.length c0_3):=(bC_ HPB.out.wit 3).trans rfl;have s4 : w32.cell? ⟨w.heap.size,4,none⟩ = some (.int .i64 a0_4):=(bC_ HPB.out.wit 4).trans rfl;refine ⟨_,rfl,?_⟩)|((with_reducible refine gate_callee (f:=34) rfl ?_);refine goesL_ (some 42) rfl rfl Tryd.func34 (by kernel_rfl) rfl #[.int .i64 pa] rfl (by (try simp only [List.map_toArray,List.map_cons,List.map_nil]);first|done|rfl) ?_;(with_reducible refine (strconv_Itoa.calls pa ⟨(Lib.itoa pa).toArray⟩ _ (GV_below HG.out HPB.out.bel) (itoa_f HKA.out)).mono ?_);rintro e_ w33 ⟨rfl,hb⟩;have n0_:=A0_.mk (HPB.out.below hb);have nx_:=A0_.mk (blk_below HX.out hb);clear HX;have HX:=nx_;clear nx_;have x0 : w33.cell? ⟨g11,0,none⟩ = some (.int .u8 (c.toNat : Int)):=(bC_ HX.out 0).trans rfl;have x1 : w33.cell? ⟨g11,1,none⟩ = some (.int .i64 pa):=(bC_ HX.out 1).trans rfl;clear HPB;have HPB:=n0_;clear n0_ hb;have s0 : w33.cell? ⟨w.heap.size,0,none⟩ = some (.int .i64 a0_0):=(bC_ HPB.out.wit 0).trans rfl;have s1 : w33.cell? ⟨w.heap.size,1,none⟩ = some (.slice (some ad238) l0_1.length c0_1):=(bC_ HPB.out.wit 1).trans rfl;have s2 : w33.cell? ⟨w.heap.size,2,none⟩ = some (.slice A0_2 l0_2.length c0_2):=(bC_ HPB.out.wit 2).trans rfl;have s3 : w33.cell? ⟨w.heap.size,3,none⟩ = some (.slice A0_3 l0_3.length c0_3):=(bC_ HPB.out.wit 3).trans rfl;have s4 : w33.cell? ⟨w.heap.size,4,none⟩ = some (.int .i64 a0_4):=(bC_ HPB.out.wit 4).trans rfl;refine ⟨_,rfl,?_⟩)|((with_reducible refine gate_callee (f:=33) rfl ?_);refine goesL_ (some 43) rfl rfl Tryd.func33 (by kernel_rfl) rfl #[.pointer (some ⟨b,0,none⟩),.string (⟨(Lib.itoa pa).toArray⟩)] rfl (by (try simp only [List.map_toArray,List.map_cons,List.map_nil]);first|done|rfl) ?_;(with_reducible refine (PB.writeS HPB.out (⟨(Lib.itoa pa).toArray⟩) (by have h_:=HT.out;(simp only [List.length_append,List.length_cons,List.length_nil,ByteArray.size_append,size_arr,strOfNums_size,List.length_map,List.size_toArray,Nat.zero_add] at *;omega))).mono ?_);rintro e_ w34 ⟨v_,rfl,hp,ho⟩;skip;have nx_:=A0_.mk (ho _ _ HX.out (fun e => PB.ne_of HPB.out HX.out (by decide) (by injection e)) (fun c fz e => by injection e with _ e;cases e));clear HX;have HX:=nx_;clear nx_;have x0 : w34.cell? ⟨g11,0,none⟩ = some (.int .u8 (c.toNat : Int)):=(bC_ HX.out 0).trans rfl;have x1 : w34.cell? ⟨g11,1,none⟩ = some (.int .i64 pa):=(bC_ HX.out 1).trans rfl;clear HPB;have HPB:=A0_.mk hp;clear hp ho;have s0 : w34.cell? ⟨w.heap.size,0,none⟩ = some (.int .i64 a0_0):=(bC_ HPB.out.wit 0).trans rfl;have s1 : w34.cell? ⟨w.heap.size,1,none⟩ = some (.slice (some ad238) l0_1.length c0_1):=(bC_ HPB.out.wit 1).trans rfl;have s2 : w34.cell? ⟨w.heap.size,2,none⟩ = some (.slice A0_2 l0_2.length c0_2):=(bC_ HPB.out.wit 2).trans rfl;have s3 : w34.cell? ⟨w.heap.size,3,none⟩ = some (.slice A0_3 l0_3.length c0_3):=(bC_ HPB.out.wit 3).trans rfl;have s4 : w34.cell? ⟨w.heap.size,4,none⟩ = some (.int .i64 a0_4):=(bC_ HPB.out.wit 4).trans rfl;refine ⟨_,rfl,?_⟩))
       (try simp only [Act.put,List.setIfInBounds_toArray,List.set_cons_zero,List.set_cons_succ])
       have hfin : Lib.itoa a0_0 ++ [10] ++ propsBytes (l0_1.take n) ++ [32] ++ [c] ++ (⟨(Lib.itoa pa).toArray⟩ : ByteArray).data.toList = Lib.itoa a0_0 ++ [10] ++ propsBytes (l0_1.take (n + 1)):=by rw [HTK.out,propsBytes_snoc,HLT.out,hn3];simp [propBytes]
       have hpb:=HPB.out
       rw [hfin] at hpb
       clear HPB hfin
       have HPB:=A0_.mk hpb
       clear hpb
       go_wp2
       repeat (go_quiet (fail);try go_wp2)
       go_roundg k1
       case measure => omega
       case rel => exact ⟨n + 1,by go_num,⟨by have:=HK.out;omega⟩,⟨by omega⟩,HPB⟩
     ·have c4b0 : decide ((n : Int) < (l0_1.length : Int)) = false:=decide_eq_false (by omega)
      have hn : n = l0_1.length:=by have:=HN.out;omega
      have hpb:=HPB.out
      rw [hn,List.take_length] at hpb
      clear HPB
      have HPB:=A0_.mk hpb
      have HT : A0_ ((Lib.itoa a0_0).length + 1 + (propsBytes l0_1).length + 1 + (traceBytes a0_0 l0_2 l0_3 a0_4).length + 2 ≤ 1000000000):=⟨by have h_:=HTOT.out;simp only [witBytes,headBytes,List.length_append,List.length_cons,List.length_nil] at h_;omega⟩
      clear hpb
      have s0 : wr.cell? ⟨w.heap.size,0,none⟩ = some (.int .i64 a0_0):=(bC_ HPB.out.wit 0).trans rfl
      have s1 : wr.cell? ⟨w.heap.size,1,none⟩ = some (.slice A0_1 l0_1.length c0_1):=(bC_ HPB.out.wit 1).trans rfl
      have s2 : wr.cell? ⟨w.heap.size,2,none⟩ = some (.slice A0_2 l0_2.length c0_2):=(bC_ HPB.out.wit 2).trans rfl
      have s3 : wr.cell? ⟨w.heap.size,3,none⟩ = some (.slice A0_3 l0_3.length c0_3):=(bC_ HPB.out.wit 3).trans rfl
      have s4 : wr.cell? ⟨w.heap.size,4,none⟩ = some (.int .i64 a0_4):=(bC_ HPB.out.wit 4).trans rfl
      go_upto_region 15 with (first|((with_reducible refine gate_callee (f:=35) rfl ?_);refine goesL_ (some 45) rfl rfl Tryd.func35 (by kernel_rfl) rfl #[.pointer (some ⟨b,0,none⟩),.int .u8 (10)] rfl (by (try simp only [List.map_toArray,List.map_cons,List.map_nil]);first|done|rfl) ?_;(with_reducible refine (PB.writeB HPB.out (10) (10) rfl (by have h_:=HT.out;(simp only [List.length_append,List.length_cons,List.length_nil,ByteArray.size_append,size_arr,strOfNums_size,List.length_map,List.size_toArray,Nat.zero_add] at *;omega))).mono ?_);rintro e_ w13 ⟨rfl,hp,ho⟩;clear HPB;have HPB:=A0_.mk hp;clear hp ho;have s0 : w13.cell? ⟨w.heap.size,0,none⟩ = some (.int .i64 a0_0):=(bC_ HPB.out.wit 0).trans rfl;have s1 : w13.cell? ⟨w.heap.size,1,none⟩ = some (.slice A0_1 l0_1.length c0_1):=(bC_ HPB.out.wit 1).trans rfl;have s2 : w13.cell? ⟨w.heap.size,2,none⟩ = some (.slice A0_2 l0_2.length c0_2):=(bC_ HPB.out.wit 2).trans rfl;have s3 : w13.cell? ⟨w.heap.size,3,none⟩ = some (.slice A0_3 l0_3.length c0_3):=(bC_ HPB.out.wit 3).trans rfl;have s4 : w13.cell? ⟨w.heap.size,4,none⟩ = some (.int .i64 a0_4):=(bC_ HPB.out.wit 4).trans rfl;refine ⟨_,rfl,?_⟩))
      (try simp only [Act.put,List.setIfInBounds_toArray,List.set_cons_zero,List.set_cons_succ])
      have hhd : Lib.itoa a0_0 ++ [10] ++ propsBytes l0_1 ++ [10] = headBytes a0_0 l0_1:=rfl
      have hhl : (headBytes a0_0 l0_1).length = (Lib.itoa a0_0).length + 1 + (propsBytes l0_1).length + 1:=by simp [headBytes];omega
      have hT2:=HT.out
      rw [← hhl] at hT2
      clear HT
      have HT:=A0_.mk hT2
      clear hT2
      have hpb:=HPB.out
      rw [hhd] at hpb
      clear HPB hhd hhl
      have HPB:=A0_.mk hpb
      clear hpb
      by_cases st1 : a0_0 = 1
      ·subst st1
       have htl : (traceBytes 1 l0_2 l0_3 a0_4).length = l0_2.length + 1 + (rowsBytes l0_3).length + (loopBytes a0_4).length:=by simp [traceBytes,rowBytes];try omega
       have hT2:=HT.out
       rw [htl] at hT2
       clear HT htl
       have HT:=A0_.mk hT2
       clear hT2
       go_upto_region 17 with (first|((with_reducible refine gate_callee (f:=36) rfl ?_);refine goesL_ (some 52) rfl rfl Tryd.func36 (by kernel_rfl) rfl #[.slice A0_2 l0_2.length c0_2] rfl (by (try simp only [List.map_toArray,List.map_cons,List.map_nil]);first|done|rfl) ?_;(with_reducible refine (stim_digits.calls A0_2 c0_2 l0_2 (strOfNums (l0_2.map digitOf ++ [10])) _ (Kd.C_below HR2.out HPB.out.bel) HC2.out (by unfold stim_digits.f;rw [if_pos HIN.out])).mono ?_);rintro e_ w14 ⟨rfl,hb⟩;have n0_:=A0_.mk (HPB.out.below hb);clear HPB;have HPB:=n0_;clear n0_ hb;have s0 : w14.cell? ⟨w.heap.size,0,none⟩ = some (.int .i64 1):=(bC_ HPB.out.wit 0).trans rfl;have s1 : w14.cell? ⟨w.heap.size,1,none⟩ = some (.slice A0_1 l0_1.length c0_1):=(bC_ HPB.out.wit 1).trans rfl;have s2 : w14.cell? ⟨w.heap.size,2,none⟩ = some (.slice A0_2 l0_2.length c0_2):=(bC_ HPB.out.wit 2).trans rfl;have s3 : w14.cell? ⟨w.heap.size,3,none⟩ = some (.slice A0_3 l0_3.length c0_3):=(bC_ HPB.out.wit 3).trans rfl;have s4 : w14.cell? ⟨w.heap.size,4,none⟩ = some (.int .i64 a0_4):=(bC_ HPB.out.wit 4).trans rfl;refine ⟨_,rfl,?_⟩)|((with_reducible refine gate_callee (f:=33) rfl ?_);refine goesL_ (some 53) rfl rfl Tryd.func33 (by kernel_rfl) rfl #[.pointer (some ⟨b,0,none⟩),.string (strOfNums (l0_2.map digitOf ++ [10]))] rfl (by (try simp only [List.map_toArray,List.map_cons,List.map_nil]);first|done|rfl) ?_;(with_reducible refine (PB.writeS HPB.out (strOfNums (l0_2.map digitOf ++ [10])) (by have h_:=HT.out;(simp only [List.length_append,List.length_cons,List.length_nil,ByteArray.size_append,size_arr,strOfNums_size,List.length_map,List.size_toArray,Nat.zero_add] at *;omega))).mono ?_);rintro e_ w15 ⟨v_,rfl,hp,ho⟩;skip;clear HPB;have HPB:=A0_.mk hp;clear hp ho;have s0 : w15.cell? ⟨w.heap.size,0,none⟩ = some (.int .i64 1):=(bC_ HPB.out.wit 0).trans rfl;have s1 : w15.cell? ⟨w.heap.size,1,none⟩ = some (.slice A0_1 l0_1.length c0_1):=(bC_ HPB.out.wit 1).trans rfl;have s2 : w15.cell? ⟨w.heap.size,2,none⟩ = some (.slice A0_2 l0_2.length c0_2):=(bC_ HPB.out.wit 2).trans rfl;have s3 : w15.cell? ⟨w.heap.size,3,none⟩ = some (.slice A0_3 l0_3.length c0_3):=(bC_ HPB.out.wit 3).trans rfl;have s4 : w15.cell? ⟨w.heap.size,4,none⟩ = some (.int .i64 a0_4):=(bC_ HPB.out.wit 4).trans rfl;refine ⟨_,rfl,?_⟩))
       (try simp only [Act.put,List.setIfInBounds_toArray,List.set_cons_zero,List.set_cons_succ])
       have hpb:=HPB.out
       rw [strOf_row] at hpb
       clear HPB
       have HPB:=A0_.mk hpb
       clear hpb
       go_wp2
       repeat (go_quiet (fail);try go_wp2)
       (try simp only [Act.put,List.setIfInBounds_toArray,List.set_cons_zero,List.set_cons_succ])
       go_loopg [58] (l0_3.length + 1) (fun kq v w' => ∃ m : Nat,v = .int .i64 m ∧ A0_ (m + kq = l0_3.length + 1) ∧ A0_ (m ≤ l0_3.length) ∧ A0_ (PB w w' #[.int .i64 1,.slice A0_1 l0_1.length c0_1,.slice A0_2 l0_2.length c0_2,.slice A0_3 l0_3.length c0_3,.int .i64 a0_4] b (headBytes 1 l0_1 ++ rowBytes l0_2 ++ rowsBytes (l0_3.take m))))
       case atStart => exact ⟨0,rfl,⟨by omega⟩,⟨by omega⟩,⟨by rw [show headBytes 1 l0_1 ++ rowBytes l0_2 ++ rowsBytes (l0_3.take 0) = headBytes 1 l0_1 ++ rowBytes l0_2 from by simp [rowsBytes]];exact HPB.out⟩⟩
       case round =>
        try clear s0
        try clear s1
        try clear s2
        try clear s3
        try clear s4
        clear HPB
        obtain ⟨m,rfl,HKm,HNm,HPB⟩:=hrel
        cases gk with
        |zero =>
         have h1:=HKm.out
         have h2:=HNm.out
         omega
        |succ k2 =>
         have hlp3:=hil
         by_cases d4 : m < l0_3.length
         ·have d4b0 : decide ((m : Int) < (l0_3.length : Int)) = true:=decide_eq_true (by omega)
          have p239 : 0 ≤ (m : Int):=by omega
          have q239 : (m : Int) < (l0_3.length : Int):=by omega
          obtain ⟨ad239,Ar,cr,e239,hx239,hle239,hC239⟩:=at_L6 HR3.out (m : Int) p239 q239
          cases e239
          simp only [Int.toNat_natCast] at hx239
          replace hx239:=(HPB.out.bel.cell (World.block_lt_of_cell? w _ hx239)).trans hx239
          replace p239:=eq_true p239
          replace q239:=eq_true q239
          have hrd : rd_L6 l0_3 (m : Int) = l0_3[m]:=by simp [rd_L6,d4]
          have hrl : (rd_L6 l0_3 (m : Int)).length < 4294967296:=by rw [hrd];exact HRS.out _ (List.getElem_mem d4)
          have htake : l0_3.take (m + 1) = l0_3.take m ++ [rd_L6 l0_3 (m : Int)]:=by rw [hrd];exact List.take_succ_eq_append_getElem d4
          have hpre : (rowsBytes (l0_3.take (m + 1))).length ≤ (rowsBytes l0_3).length:=rowsBytes_take l0_3 (m + 1)
          rw [htake,rowsBytes_snoc,List.length_append,rowBytes_length] at hpre
          generalize rd_L6 l0_3 (m : Int) = row at *
          have hrbl : (rowBytes l0_2).length = l0_2.length + 1:=rowBytes_length l0_2
          have HRL:=A0_.mk hrl
          have HCR:=A0_.mk hC239
          have HTK:=A0_.mk htake
          have HTT:=HT
          clear HT
          have HT : A0_ ((headBytes 1 l0_1).length + (rowBytes l0_2).length + ((rowsBytes (l0_3.take m)).length + (row.length + 1)) ≤ 1000000000):=⟨by have h_:=HTT.out;omega⟩
          clear hrd hrl htake hpre hC239 hrbl HTT
          have s0 : wr.cell? ⟨w.heap.size,0,none⟩ = some (.int .i64 1):=(bC_ HPB.out.wit 0).trans rfl
          have s1 : wr.cell? ⟨w.heap.size,1,none⟩ = some (.slice A0_1 l0_1.length c0_1):=(bC_ HPB.out.wit 1).trans rfl
          have s2 : wr.cell? ⟨w.heap.size,2,none⟩ = some (.slice A0_2 l0_2.length c0_2):=(bC_ HPB.out.wit 2).trans rfl
          have s3 : wr.cell? ⟨w.heap.size,3,none⟩ = some (.slice (some ad239) l0_3.length c0_3):=(bC_ HPB.out.wit 3).trans rfl
          have s4 : wr.cell? ⟨w.heap.size,4,none⟩ = some (.int .i64 a0_4):=(bC_ HPB.out.wit 4).trans rfl
          go_upto_region 21 with (first|((with_reducible refine gate_callee (f:=36) rfl ?_);refine goesL_ (some 63) rfl rfl Tryd.func36 (by kernel_rfl) rfl #[.slice Ar row.length cr] rfl (by (try simp only [List.map_toArray,List.map_cons,List.map_nil]);first|done|rfl) ?_;(with_reducible refine (stim_digits.calls Ar cr row (strOfNums (row.map digitOf ++ [10])) _ (Kd.C_below HCR.out HPB.out.bel) hle239 (by unfold stim_digits.f;rw [if_pos HRL.out])).mono ?_);rintro e_ w16 ⟨rfl,hb⟩;have n0_:=A0_.mk (HPB.out.below hb);clear HPB;have HPB:=n0_;clear n0_ hb;have s0 : w16.cell? ⟨w.heap.size,0,none⟩ = some (.int .i64 1):=(bC_ HPB.out.wit 0).trans rfl;have s1 : w16.cell? ⟨w.heap.size,1,none⟩ = some (.slice A0_1 l0_1.length c0_1):=(bC_ HPB.out.wit 1).trans rfl;have s2 : w16.cell? ⟨w.heap.size,2,none⟩ = some (.slice A0_2 l0_2.length c0_2):=(bC_ HPB.out.wit 2).trans rfl;have s3 : w16.cell? ⟨w.heap.size,3,none⟩ = some (.slice (some ad239) l0_3.length c0_3):=(bC_ HPB.out.wit 3).trans rfl;have s4 : w16.cell? ⟨w.heap.size,4,none⟩ = some (.int .i64 a0_4):=(bC_ HPB.out.wit 4).trans rfl;refine ⟨_,rfl,?_⟩)|((with_reducible refine gate_callee (f:=33) rfl ?_);refine goesL_ (some 64) rfl rfl Tryd.func33 (by kernel_rfl) rfl #[.pointer (some ⟨b,0,none⟩),.string (strOfNums (row.map digitOf ++ [10]))] rfl (by (try simp only [List.map_toArray,List.map_cons,List.map_nil]);first|done|rfl) ?_;(with_reducible refine (PB.writeS HPB.out (strOfNums (row.map digitOf ++ [10])) (by have h_:=HT.out;(simp only [List.length_append,List.length_cons,List.length_nil,ByteArray.size_append,size_arr,strOfNums_size,List.length_map,List.size_toArray,Nat.zero_add] at *;omega))).mono ?_);rintro e_ w17 ⟨v_,rfl,hp,ho⟩;skip;clear HPB;have HPB:=A0_.mk hp;clear hp ho;have s0 : w17.cell? ⟨w.heap.size,0,none⟩ = some (.int .i64 1):=(bC_ HPB.out.wit 0).trans rfl;have s1 : w17.cell? ⟨w.heap.size,1,none⟩ = some (.slice A0_1 l0_1.length c0_1):=(bC_ HPB.out.wit 1).trans rfl;have s2 : w17.cell? ⟨w.heap.size,2,none⟩ = some (.slice A0_2 l0_2.length c0_2):=(bC_ HPB.out.wit 2).trans rfl;have s3 : w17.cell? ⟨w.heap.size,3,none⟩ = some (.slice (some ad239) l0_3.length c0_3):=(bC_ HPB.out.wit 3).trans rfl;have s4 : w17.cell? ⟨w.heap.size,4,none⟩ = some (.int .i64 a0_4):=(bC_ HPB.out.wit 4).trans rfl;refine ⟨_,rfl,?_⟩))
          (try simp only [Act.put,List.setIfInBounds_toArray,List.set_cons_zero,List.set_cons_succ])
          have hfin : headBytes 1 l0_1 ++ rowBytes l0_2 ++ rowsBytes (l0_3.take m) ++ (strOfNums (row.map digitOf ++ [10])).data.toList = headBytes 1 l0_1 ++ rowBytes l0_2 ++ rowsBytes (l0_3.take (m + 1)):=by rw [strOf_row,HTK.out,rowsBytes_snoc];simp
          have hpb:=HPB.out
          rw [hfin] at hpb
          clear HPB hfin
          have HPB:=A0_.mk hpb
          clear hpb
          go_wp2
          repeat (go_quiet (fail);try go_wp2)
          go_roundg k2
          case measure => omega
          case rel => exact ⟨m + 1,by go_num,⟨by have:=HKm.out;omega⟩,⟨by omega⟩,HPB⟩
         ·have d4b0 : decide ((m : Int) < (l0_3.length : Int)) = false:=decide_eq_false (by omega)
          have hm : m = l0_3.length:=by have:=HNm.out;omega
          have hpb:=HPB.out
          rw [hm,List.take_length] at hpb
          clear HPB
          have HPB:=A0_.mk hpb
          clear hpb
          have hrbl : (rowBytes l0_2).length = l0_2.length + 1:=rowBytes_length l0_2
          have s0 : wr.cell? ⟨w.heap.size,0,none⟩ = some (.int .i64 1):=(bC_ HPB.out.wit 0).trans rfl
          have s1 : wr.cell? ⟨w.heap.size,1,none⟩ = some (.slice A0_1 l0_1.length c0_1):=(bC_ HPB.out.wit 1).trans rfl
          have s2 : wr.cell? ⟨w.heap.size,2,none⟩ = some (.slice A0_2 l0_2.length c0_2):=(bC_ HPB.out.wit 2).trans rfl
          have s3 : wr.cell? ⟨w.heap.size,3,none⟩ = some (.slice A0_3 l0_3.length c0_3):=(bC_ HPB.out.wit 3).trans rfl
          have s4 : wr.cell? ⟨w.heap.size,4,none⟩ = some (.int .i64 a0_4):=(bC_ HPB.out.wit 4).trans rfl
          by_cases lp : a0_4 ≥ 0
          ·have lpb : decide (a0_4 ≥ 0) = true:=decide_eq_true lp
           have lpc : decide (0 ≤ a0_4) = true:=decide_eq_true lp
           have hll : (loopBytes a0_4).length = 7 + (Lib.itoa a0_4).length + 1:=by simp [loopBytes,lp];try omega
           have hT2:=HT.out
           rw [hll,← hrbl] at hT2
           clear HT
           have HT:=A0_.mk hT2
           have hcat1 : ¬ 9223372036854775807 < 7 + (Lib.itoa a0_4).length:=by omega
           have hcat2 : ¬ 9223372036854775807 < 7 + (Lib.itoa a0_4).length + 1:=by omega
           clear hT2 hll
           go_upto_region 24 with (first|((with_reducible refine gate_callee (f:=34) rfl ?_);refine goesL_ (some 73) rfl rfl Tryd.func34 (by kernel_rfl) rfl #[.int .i64 a0_4] rfl (by (try simp only [List.map_toArray,List.map_cons,List.map_nil]);first|done|rfl) ?_;(with_reducible refine (strconv_Itoa.calls a0_4 ⟨(Lib.itoa a0_4).toArray⟩ _ (GV_below HG.out HPB.out.bel) (itoa_f HI4.out)).mono ?_);rintro e_ w18 ⟨rfl,hb⟩;have n0_:=A0_.mk (HPB.out.below hb);clear HPB;have HPB:=n0_;clear n0_ hb;have s0 : w18.cell? ⟨w.heap.size,0,none⟩ = some (.int .i64 1):=(bC_ HPB.out.wit 0).trans rfl;have s1 : w18.cell? ⟨w.heap.size,1,none⟩ = some (.slice A0_1 l0_1.length c0_1):=(bC_ HPB.out.wit 1).trans rfl;have s2 : w18.cell? ⟨w.heap.size,2,none⟩ = some (.slice A0_2 l0_2.length c0_2):=(bC_ HPB.out.wit 2).trans rfl;have s3 : w18.cell? ⟨w.heap.size,3,none⟩ = some (.slice A0_3 l0_3.length c0_3):=(bC_ HPB.out.wit 3).trans rfl;have s4 : w18.cell? ⟨w.heap.size,4,none⟩ = some (.int .i64 a0_4):=(bC_ HPB.out.wit 4).trans rfl;refine ⟨_,rfl,?_⟩)|((with_reducible refine gate_callee (f:=33) rfl ?_);refine goesL_ (some 76) rfl rfl Tryd.func33 (by kernel_rfl) rfl #[.pointer (some ⟨b,0,none⟩),.string (⟨#[99,32,108,111,111,112,32]⟩ ++ ⟨(Lib.itoa a0_4).toArray⟩ ++ ⟨#[10]⟩)] rfl (by (try simp only [List.map_toArray,List.map_cons,List.map_nil]);first|done|rfl) ?_;(with_reducible refine (PB.writeS HPB.out (⟨#[99,32,108,111,111,112,32]⟩ ++ ⟨(Lib.itoa a0_4).toArray⟩ ++ ⟨#[10]⟩) (by have h_:=HT.out;(simp only [List.length_append,List.length_cons,List.length_nil,ByteArray.size_append,size_arr,strOfNums_size,List.length_map,List.size_toArray,Nat.zero_add] at *;omega))).mono ?_);rintro e_ w19 ⟨v_,rfl,hp,ho⟩;skip;clear HPB;have HPB:=A0_.mk hp;clear hp ho;have s0 : w19.cell? ⟨w.heap.size,0,none⟩ = some (.int .i64 1):=(bC_ HPB.out.wit 0).trans rfl;have s1 : w19.cell? ⟨w.heap.size,1,none⟩ = some (.slice A0_1 l0_1.length c0_1):=(bC_ HPB.out.wit 1).trans rfl;have s2 : w19.cell? ⟨w.heap.size,2,none⟩ = some (.slice A0_2 l0_2.length c0_2):=(bC_ HPB.out.wit 2).trans rfl;have s3 : w19.cell? ⟨w.heap.size,3,none⟩ = some (.slice A0_3 l0_3.length c0_3):=(bC_ HPB.out.wit 3).trans rfl;have s4 : w19.cell? ⟨w.heap.size,4,none⟩ = some (.int .i64 a0_4):=(bC_ HPB.out.wit 4).trans rfl;refine ⟨_,rfl,?_⟩))
           (try simp only [Act.put,List.setIfInBounds_toArray,List.set_cons_zero,List.set_cons_succ])
           have hfin : headBytes 1 l0_1 ++ rowBytes l0_2 ++ rowsBytes l0_3 ++ ((⟨#[99,32,108,111,111,112,32]⟩ : ByteArray) ++ ⟨(Lib.itoa a0_4).toArray⟩ ++ ⟨#[10]⟩).data.toList = headBytes 1 l0_1 ++ traceBytes 1 l0_2 l0_3 a0_4:=by simp [traceBytes,loopBytes,lp]
           have hT3:=HT.out
           have htl2 : (traceBytes 1 l0_2 l0_3 a0_4).length = (rowBytes l0_2).length + (rowsBytes l0_3).length + (7 + (Lib.itoa a0_4).length + 1):=by simp [traceBytes,loopBytes,lp];try omega
           clear HT
           have HT : A0_ ((headBytes 1 l0_1).length + (traceBytes 1 l0_2 l0_3 a0_4).length + 2 ≤ 1000000000):=⟨by omega⟩
           have hpb:=HPB.out
           rw [hfin] at hpb
           clear HPB hfin hT3 htl2
           have HPB:=A0_.mk hpb
           clear hpb
           go_upto_region 25 with (first|((with_reducible refine gate_callee (f:=33) rfl ?_);refine goesL_ (some 77) rfl rfl Tryd.func33 (by kernel_rfl) rfl #[.pointer (some ⟨b,0,none⟩),.string (⟨#[46,10]⟩)] rfl (by (try simp only [List.map_toArray,List.map_cons,List.map_nil]);first|done|rfl) ?_;(with_reducible refine (PB.writeS HPB.out (⟨#[46,10]⟩) (by have h_:=HT.out;(simp only [List.length_append,List.length_cons,List.length_nil,ByteArray.size_append,size_arr,strOfNums_size,List.length_map,List.size_toArray,Nat.zero_add] at *;omega))).mono ?_);rintro e_ w20 ⟨v_,rfl,hp,ho⟩;skip;clear HPB;have HPB:=A0_.mk hp;clear hp ho;have s0 : w20.cell? ⟨w.heap.size,0,none⟩ = some (.int .i64 1):=(bC_ HPB.out.wit 0).trans rfl;have s1 : w20.cell? ⟨w.heap.size,1,none⟩ = some (.slice A0_1 l0_1.length c0_1):=(bC_ HPB.out.wit 1).trans rfl;have s2 : w20.cell? ⟨w.heap.size,2,none⟩ = some (.slice A0_2 l0_2.length c0_2):=(bC_ HPB.out.wit 2).trans rfl;have s3 : w20.cell? ⟨w.heap.size,3,none⟩ = some (.slice A0_3 l0_3.length c0_3):=(bC_ HPB.out.wit 3).trans rfl;have s4 : w20.cell? ⟨w.heap.size,4,none⟩ = some (.int .i64 a0_4):=(bC_ HPB.out.wit 4).trans rfl;refine ⟨_,rfl,?_⟩))
           (try simp only [Act.put,List.setIfInBounds_toArray,List.set_cons_zero,List.set_cons_succ])
           have hfin : (headBytes 1 l0_1 ++ traceBytes 1 l0_2 l0_3 a0_4) ++ (⟨#[46,10]⟩ : ByteArray).data.toList = witBytes 1 l0_1 l0_2 l0_3 a0_4:=by simp [witBytes]
           have hpb:=HPB.out
           rw [hfin] at hpb
           clear HPB hfin
           have HPB:=A0_.mk hpb
           clear hpb
           have hh:=HH.out
           by_cases big : (witBytes 1 l0_1 l0_2 l0_3 a0_4).length > 262144
           ·rw [if_pos big] at hh
            simp only [Option.some.injEq,Prod.mk.injEq] at hh
            obtain ⟨rfl,rfl⟩:=hh
            have bigb : decide (((witBytes 1 l0_1 l0_2 l0_3 a0_4).length : Int) > 262144) = true:=decide_eq_true (by omega)
            have bigc : decide (262144 < (witBytes 1 l0_1 l0_2 l0_3 a0_4).length) = true:=decide_eq_true (by omega)
            clear HH HTOT
            go_wp2_with (first|((with_reducible refine gate_callee (f:=37) rfl ?_);refine goesL_ (some 78) rfl rfl Tryd.func37 (by kernel_rfl) rfl #[.pointer (some ⟨b,0,none⟩)] rfl (by (try simp only [List.map_toArray,List.map_cons,List.map_nil]);first|done|rfl) ?_;(with_reducible refine (PB.len HPB.out).mono ?_);rintro e_ w_ ⟨rfl,rfl⟩;refine ⟨_,rfl,?_⟩)|go_in)
            repeat (go_quiet (fail);try go_wp2)
            go_ret2
            exact ⟨rfl,HPB.out.bel⟩
           ·rw [if_neg big] at hh
            simp only [Option.some.injEq,Prod.mk.injEq] at hh
            obtain ⟨rfl,rfl⟩:=hh
            have bigb : decide (((witBytes 1 l0_1 l0_2 l0_3 a0_4).length : Int) > 262144) = false:=decide_eq_false (by omega)
            have bigc : decide (262144 < (witBytes 1 l0_1 l0_2 l0_3 a0_4).length) = false:=decide_eq_false (by omega)
            clear HH HTOT
            go_wp2_with (first|((with_reducible refine gate_callee (f:=37) rfl ?_);refine goesL_ (some 78) rfl rfl Tryd.func37 (by kernel_rfl) rfl #[.pointer (some ⟨b,0,none⟩)] rfl (by (try simp only [List.map_toArray,List.map_cons,List.map_nil]);first|done|rfl) ?_;(with_reducible refine (PB.len HPB.out).mono ?_);rintro e_ w_ ⟨rfl,rfl⟩;refine ⟨_,rfl,?_⟩)|((with_reducible refine gate_callee (f:=38) rfl ?_);refine goesL_ (some 80) rfl rfl Tryd.func38 (by kernel_rfl) rfl #[.pointer (some ⟨b,0,none⟩)] rfl (by (try simp only [List.map_toArray,List.map_cons,List.map_nil]);first|done|rfl) ?_;(with_reducible refine (PB.string HPB.out).mono ?_);rintro e_ w_ ⟨rfl,hfb⟩;refine ⟨_,rfl,?_⟩)|go_in)
            repeat (go_quiet (fail);try go_wp2)
            go_ret2
            exact ⟨rfl,hfb⟩
          ·have lpb : decide (a0_4 ≥ 0) = false:=decide_eq_false lp
           have lpc : decide (0 ≤ a0_4) = false:=decide_eq_false lp
           have hfin : headBytes 1 l0_1 ++ rowBytes l0_2 ++ rowsBytes l0_3 = headBytes 1 l0_1 ++ traceBytes 1 l0_2 l0_3 a0_4:=by simp [traceBytes,loopBytes,lp]
           have hT3:=HT.out
           have htl2 : (traceBytes 1 l0_2 l0_3 a0_4).length = (rowBytes l0_2).length + (rowsBytes l0_3).length:=by simp [traceBytes,loopBytes,lp]
           clear HT
           have HT : A0_ ((headBytes 1 l0_1).length + (traceBytes 1 l0_2 l0_3 a0_4).length + 2 ≤ 1000000000):=⟨by omega⟩
           have hpb:=HPB.out
           rw [hfin] at hpb
           clear HPB hfin hT3 htl2
           have HPB:=A0_.mk hpb
           clear hpb
           go_upto_region 25 with (first|((with_reducible refine gate_callee (f:=33) rfl ?_);refine goesL_ (some 77) rfl rfl Tryd.func33 (by kernel_rfl) rfl #[.pointer (some ⟨b,0,none⟩),.string (⟨#[46,10]⟩)] rfl (by (try simp only [List.map_toArray,List.map_cons,List.map_nil]);first|done|rfl) ?_;(with_reducible refine (PB.writeS HPB.out (⟨#[46,10]⟩) (by have h_:=HT.out;(simp only [List.length_append,List.length_cons,List.length_nil,ByteArray.size_append,size_arr,strOfNums_size,List.length_map,List.size_toArray,Nat.zero_add] at *;omega))).mono ?_);rintro e_ w22 ⟨v_,rfl,hp,ho⟩;skip;clear HPB;have HPB:=A0_.mk hp;clear hp ho;have s0 : w22.cell? ⟨w.heap.size,0,none⟩ = some (.int .i64 1):=(bC_ HPB.out.wit 0).trans rfl;have s1 : w22.cell? ⟨w.heap.size,1,none⟩ = some (.slice A0_1 l0_1.length c0_1):=(bC_ HPB.out.wit 1).trans rfl;have s2 : w22.cell? ⟨w.heap.size,2,none⟩ = some (.slice A0_2 l0_2.length c0_2):=(bC_ HPB.out.wit 2).trans rfl;have s3 : w22.cell? ⟨w.heap.size,3,none⟩ = some (.slice A0_3 l0_3.length c0_3):=(bC_ HPB.out.wit 3).trans rfl;have s4 : w22.cell? ⟨w.heap.size,4,none⟩ = some (.int .i64 a0_4):=(bC_ HPB.out.wit 4).trans rfl;refine ⟨_,rfl,?_⟩))
           (try simp only [Act.put,List.setIfInBounds_toArray,List.set_cons_zero,List.set_cons_succ])
           have hfin : (headBytes 1 l0_1 ++ traceBytes 1 l0_2 l0_3 a0_4) ++ (⟨#[46,10]⟩ : ByteArray).data.toList = witBytes 1 l0_1 l0_2 l0_3 a0_4:=by simp [witBytes]
           have hpb:=HPB.out
           rw [hfin] at hpb
           clear HPB hfin
           have HPB:=A0_.mk hpb
           clear hpb
           have hh:=HH.out
           by_cases big : (witBytes 1 l0_1 l0_2 l0_3 a0_4).length > 262144
           ·rw [if_pos big] at hh
            simp only [Option.some.injEq,Prod.mk.injEq] at hh
            obtain ⟨rfl,rfl⟩:=hh
            have bigb : decide (((witBytes 1 l0_1 l0_2 l0_3 a0_4).length : Int) > 262144) = true:=decide_eq_true (by omega)
            have bigc : decide (262144 < (witBytes 1 l0_1 l0_2 l0_3 a0_4).length) = true:=decide_eq_true (by omega)
            clear HH HTOT
            go_wp2_with (first|((with_reducible refine gate_callee (f:=37) rfl ?_);refine goesL_ (some 78) rfl rfl Tryd.func37 (by kernel_rfl) rfl #[.pointer (some ⟨b,0,none⟩)] rfl (by (try simp only [List.map_toArray,List.map_cons,List.map_nil]);first|done|rfl) ?_;(with_reducible refine (PB.len HPB.out).mono ?_);rintro e_ w_ ⟨rfl,rfl⟩;refine ⟨_,rfl,?_⟩)|go_in)
            repeat (go_quiet (fail);try go_wp2)
            go_ret2
            exact ⟨rfl,HPB.out.bel⟩
           ·rw [if_neg big] at hh
            simp only [Option.some.injEq,Prod.mk.injEq] at hh
            obtain ⟨rfl,rfl⟩:=hh
            have bigb : decide (((witBytes 1 l0_1 l0_2 l0_3 a0_4).length : Int) > 262144) = false:=decide_eq_false (by omega)
            have bigc : decide (262144 < (witBytes 1 l0_1 l0_2 l0_3 a0_4).length) = false:=decide_eq_false (by omega)
            clear HH HTOT
            go_wp2_with (first|((with_reducible refine gate_callee (f:=37) rfl ?_);refine goesL_ (some 78) rfl rfl Tryd.func37 (by kernel_rfl) rfl #[.pointer (some ⟨b,0,none⟩)] rfl (by (try simp only [List.map_toArray,List.map_cons,List.map_nil]);first|done|rfl) ?_;(with_reducible refine (PB.len HPB.out).mono ?_);rintro e_ w_ ⟨rfl,rfl⟩;refine ⟨_,rfl,?_⟩)|((with_reducible refine gate_callee (f:=38) rfl ?_);refine goesL_ (some 80) rfl rfl Tryd.func38 (by kernel_rfl) rfl #[.pointer (some ⟨b,0,none⟩)] rfl (by (try simp only [List.map_toArray,List.map_cons,List.map_nil]);first|done|rfl) ?_;(with_reducible refine (PB.string HPB.out).mono ?_);rintro e_ w_ ⟨rfl,hfb⟩;refine ⟨_,rfl,?_⟩)|go_in)
            repeat (go_quiet (fail);try go_wp2)
            go_ret2
            exact ⟨rfl,hfb⟩
      ·have st1b : (a0_0 == 1) = false:=beq_eq_false_iff_ne.mpr st1
       go_upto_region 25 with (first|((with_reducible refine gate_callee (f:=33) rfl ?_);refine goesL_ (some 77) rfl rfl Tryd.func33 (by kernel_rfl) rfl #[.pointer (some ⟨b,0,none⟩),.string (⟨#[46,10]⟩)] rfl (by (try simp only [List.map_toArray,List.map_cons,List.map_nil]);first|done|rfl) ?_;(with_reducible refine (PB.writeS HPB.out (⟨#[46,10]⟩) (by have h_:=HT.out;(simp only [List.length_append,List.length_cons,List.length_nil,ByteArray.size_append,size_arr,strOfNums_size,List.length_map,List.size_toArray,Nat.zero_add] at *;omega))).mono ?_);rintro e_ w24 ⟨v_,rfl,hp,ho⟩;skip;clear HPB;have HPB:=A0_.mk hp;clear hp ho;have s0 : w24.cell? ⟨w.heap.size,0,none⟩ = some (.int .i64 a0_0):=(bC_ HPB.out.wit 0).trans rfl;have s1 : w24.cell? ⟨w.heap.size,1,none⟩ = some (.slice A0_1 l0_1.length c0_1):=(bC_ HPB.out.wit 1).trans rfl;have s2 : w24.cell? ⟨w.heap.size,2,none⟩ = some (.slice A0_2 l0_2.length c0_2):=(bC_ HPB.out.wit 2).trans rfl;have s3 : w24.cell? ⟨w.heap.size,3,none⟩ = some (.slice A0_3 l0_3.length c0_3):=(bC_ HPB.out.wit 3).trans rfl;have s4 : w24.cell? ⟨w.heap.size,4,none⟩ = some (.int .i64 a0_4):=(bC_ HPB.out.wit 4).trans rfl;refine ⟨_,rfl,?_⟩))
       (try simp only [Act.put,List.setIfInBounds_toArray,List.set_cons_zero,List.set_cons_succ])
       have hfin : headBytes a0_0 l0_1 ++ (⟨#[46,10]⟩ : ByteArray).data.toList = witBytes a0_0 l0_1 l0_2 l0_3 a0_4:=by simp [witBytes,traceBytes,st1]
       have hpb:=HPB.out
       rw [hfin] at hpb
       clear HPB hfin
       have HPB:=A0_.mk hpb
       clear hpb
       have hh:=HH.out
       by_cases big : (witBytes a0_0 l0_1 l0_2 l0_3 a0_4).length > 262144
       ·rw [if_pos big] at hh
        simp only [Option.some.injEq,Prod.mk.injEq] at hh
        obtain ⟨rfl,rfl⟩:=hh
        have bigb : decide (((witBytes a0_0 l0_1 l0_2 l0_3 a0_4).length : Int) > 262144) = true:=decide_eq_true (by omega)
        have bigc : decide (262144 < (witBytes a0_0 l0_1 l0_2 l0_3 a0_4).length) = true:=decide_eq_true (by omega)
        clear HH HTOT
        go_wp2_with (first|((with_reducible refine gate_callee (f:=37) rfl ?_);refine goesL_ (some 78) rfl rfl Tryd.func37 (by kernel_rfl) rfl #[.pointer (some ⟨b,0,none⟩)] rfl (by (try simp only [List.map_toArray,List.map_cons,List.map_nil]);first|done|rfl) ?_;(with_reducible refine (PB.len HPB.out).mono ?_);rintro e_ w_ ⟨rfl,rfl⟩;refine ⟨_,rfl,?_⟩)|go_in)
        repeat (go_quiet (fail);try go_wp2)
        go_ret2
        exact ⟨rfl,HPB.out.bel⟩
       ·rw [if_neg big] at hh
        simp only [Option.some.injEq,Prod.mk.injEq] at hh
        obtain ⟨rfl,rfl⟩:=hh
        have bigb : decide (((witBytes a0_0 l0_1 l0_2 l0_3 a0_4).length : Int) > 262144) = false:=decide_eq_false (by omega)
        have bigc : decide (262144 < (witBytes a0_0 l0_1 l0_2 l0_3 a0_4).length) = false:=decide_eq_false (by omega)
        clear HH HTOT
        go_wp2_with (first|((with_reducible refine gate_callee (f:=37) rfl ?_);refine goesL_ (some 78) rfl rfl Tryd.func37 (by kernel_rfl) rfl #[.pointer (some ⟨b,0,none⟩)] rfl (by (try simp only [List.map_toArray,List.map_cons,List.map_nil]);first|done|rfl) ?_;(with_reducible refine (PB.len HPB.out).mono ?_);rintro e_ w_ ⟨rfl,rfl⟩;refine ⟨_,rfl,?_⟩)|((with_reducible refine gate_callee (f:=38) rfl ?_);refine goesL_ (some 80) rfl rfl Tryd.func38 (by kernel_rfl) rfl #[.pointer (some ⟨b,0,none⟩)] rfl (by (try simp only [List.map_toArray,List.map_cons,List.map_nil]);first|done|rfl) ?_;(with_reducible refine (PB.string HPB.out).mono ?_);rintro e_ w_ ⟨rfl,hfb⟩;refine ⟨_,rfl,?_⟩)|go_in)
        repeat (go_quiet (fail);try go_wp2)
        go_ret2
        exact ⟨rfl,hfb⟩
  ·cases h
 ·rw [if_pos c1] at h
  simp only [Option.some.injEq,Prod.mk.injEq] at h
  obtain ⟨rfl,rfl⟩:=h
  have c1b : (e == 0) = false:=beq_eq_false_iff_ne.mpr c1
  have c1c : (e != 0) = true:=bne_iff_ne.mpr c1
  go_wp2
  repeat (go_quiet (fail);try go_wp2)
  go_ret2
  exact ⟨rfl,HB0.out⟩
end Go.Proofs.YtojepjkpnponoaaDoor.Stim

