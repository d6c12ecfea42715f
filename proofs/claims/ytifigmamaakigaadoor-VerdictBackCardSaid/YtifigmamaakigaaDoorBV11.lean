import Derived.Test.YtifigmamaakigaaDoorBV10
namespace Go.Proofs.YtifigmamaakigaaDoor.V
open Go Go.RowKit Go.Lib Go.Proofs.YtifigmamaakigaaDoorW.PrintWords Go.Proofs.YtifigmamaakigaaDoorW.PrintLast Go.Proofs.YtifigmamaakigaaDoorW.PrintMore
set_option linter.unusedVariables false
set_option linter.unusedSimpArgs false
attribute [local go_sem high] eqA29 eqA31 eqA37
def txtW : ByteArray:=⟨#[98,48,32,98,109,99,32,117,110,107,110,111,119,110,32,53,10,98,48,32,112,100,114,32,115,97,102,101,32,50,10,106,49,32,98,109,99,32,117,110,107,110,111,119,110,32,48,10]⟩
def rowsW : List RW:=[⟨98,0,⟨#[98,109,99]⟩,0,5⟩,⟨98,0,⟨#[112,100,114]⟩,3,2⟩,⟨106,1,⟨#[98,109,99]⟩,0,0⟩]
def bestW : List RW:=[⟨98,0,⟨#[112,100,114]⟩,3,2⟩,⟨106,1,⟨#[98,109,99]⟩,0,0⟩]
theorem merge_w : mergeF rowsW = (bestW,0):=by kernel_rfl
theorem read_w : readF txtW = (rowsW,0,0):=by kernel_rfl
theorem R_C {w : World} {e base : Nat} {ok : Nat → Prop} {A : Option Addr} {n c : Nat} {xs : List RW} (h : Kd.R kR e w base ok (.slice A n c) xs) : n = xs.length ∧ Kd.C kR w A xs.length xs:=by
  obtain ⟨A',c',e,_,hC⟩:=Kd.R_reads h
  injection e with e1 e2 e3
  subst e1
  exact ⟨e2,hC⟩
theorem read_w_calls {w : World} (hG : GV w) : Calls Tryd.prog 9 #[.string txtW] w fun e w' => ∃ A n,e = .returned (.tuple #[.slice A 3 n,.agg #[.int .i64 0,.int .i64 0]]) ∧ Kd.C kR w' A 3 rowsW ∧ Below w.heap.size w w':=by
  have h:=read_calls (s:=txtW) hG
  rw [read_w] at h
  refine Calls.mono h ?_
  rintro e w' ⟨v,rfl,hr,hb⟩
  obtain ⟨A,n,rfl⟩:=Kd.R_slice hr
  exact ⟨A,n,rfl,(R_C hr).2,hb⟩
theorem merge_w_calls {w : World} {A : Option Addr} {c : Nat} (hK : KV w) (h : Kd.C kR w A 3 rowsW) : Calls Tryd.prog 6 #[.slice A 3 c] w fun e w' => ∃ A n,e = .returned (.tuple #[.slice A 2 n,.int .i64 0]) ∧ Kd.C kR w' A 2 bestW ∧ Below w.heap.size w w':=by
  have h:=merge_calls (xs:=rowsW) (c:=c) hK h
  rw [merge_w] at h
  refine Calls.mono h ?_
  rintro e w' ⟨v,rfl,hr,hb⟩
  obtain ⟨A,n,rfl⟩:=Kd.R_slice hr
  exact ⟨A,n,rfl,(R_C hr).2,hb⟩
theorem kinds_w : ofKind 3 bestW = 1 ∧ ofKind 4 bestW = 0 ∧ ofKind 0 bestW = 1:=by decide
theorem sum_w_calls {w : World} {A : Option Addr} {c : Nat} (hK : KV w) (h : Kd.C kR w A 3 rowsW) : Calls Tryd.prog 10 #[.slice A 3 c] w fun e w' => e = .returned (.tuple #[.int .i64 1,.int .i64 0,.int .i64 1,.int .i64 0]) ∧ Below w.heap.size w w':=by
  have h:=sum_calls (xs:=rowsW) (c:=c) hK h
  rw [merge_w] at h
  dsimp only at h
  rw [kinds_w.1,kinds_w.2.1,kinds_w.2.2] at h
  exact h
set_option maxHeartbeats 4000000 in
set_option maxRecDepth 100000 in
theorem works_calls {w : World} (hG : GV w) : Calls Tryd.prog 5 #[] w fun e w' => e = .returned (.bool true) ∧ Below w.heap.size w w':=by
  have hu31:=Tryd.underlying31
  have hu37:=Tryd.underlying37
  have RC:=Aside0.mk (read_w_calls hG)
  have HG:=Aside0.mk hG
  clear hG
  unfold txtW at RC
  go_enter Tryd.func5,Tryd.ntmps5
  go_upto_region 2 with (go_at_call 9;refine (RC.out).mono ?_;rintro e w2 ⟨A1,n1,rfl,hc2,hb2⟩;have HC2:=Aside0.mk hc2;have HB2:=Aside0.mk hb2;clear hc2 hb2)
  have hf3 : (w2.alloc (.cells #[.int .i64 0,.int .i64 0] 37)).heap[w2.heap.size]? = some (.cells #[.int .i64 0,.int .i64 0] 37 (0,0)):=blk_new w2 _
  have hb3 : Below w2.heap.size w2 (w2.alloc (.cells #[.int .i64 0,.int .i64 0] 37)):=below_alloc (Below.refl _ _) _
  have hc3:=Kd.C_below HC2.out hb3
  have hbb:=HB2.out.trans (SHlower HB2.out.size hb3)
  clear HC2 HB2 hb3
  generalize w2.heap.size = g at hf3 ⊢
  generalize w2.alloc (.cells #[.int .i64 0,.int .i64 0] 37) = W3 at hf3 hc3 hbb ⊢
  have HF:=Aside0.mk hf3
  have HC:=Aside0.mk hc3
  have HB:=Aside0.mk hbb
  clear hf3 hc3 hbb
  go_upto_region 4 with (first|(go_at_call 6;refine (merge_w_calls (HG.out.below HB.out).kv HC.out).mono ?_;rintro e w4 ⟨A2,n2,rfl,hc4,hb4⟩;have HM4:=Aside0.mk hc4;have HC4:=Aside0.mk (Kd.C_below HC.out hb4);have HB4:=Aside0.mk (HB.out.trans (SHlower HB.out.size hb4));have HF4:=Aside0.mk (blk_below HF.out hb4);clear hc4 hb4)|(go_at_call 10;refine (sum_w_calls (HG.out.below HB4.out).kv HC4.out).mono ?_;rintro e w5 ⟨rfl,hb5⟩;have HM5:=Aside0.mk (Kd.C_below HM4.out hb5);have HB5:=Aside0.mk (HB4.out.trans (SHlower HB4.out.size hb5));have HF5:=Aside0.mk (blk_below HF4.out hb5);clear hb5))
  obtain ⟨ad,ea,hx0,hx1,hx2,hx3,hx4⟩:=row_at (xs:=bestW) HM5.out 0 (by decide)
  cases ea
  have f0 : w5.cell? ⟨g,0,none⟩ = some (.int .i64 0):=(blk_cell HF5.out 0).trans rfl
  have f1 : w5.cell? ⟨g,1,none⟩ = some (.int .i64 0):=(blk_cell HF5.out 1).trans rfl
  replace hx2 : w5.cell? ⟨ad.block,ad.off + 2,none⟩ = some (.string ⟨#[112,100,114]⟩):=hx2
  replace hx3 : w5.cell? ⟨ad.block,ad.off + 3,none⟩ = some (.int .i64 3):=hx3
  clear hx0 hx1 hx4
  go_wp2
  repeat (go_quiet (fail);try go_wp2)
  go_ret
  exact ⟨rfl,HB5.out⟩
end Go.Proofs.YtifigmamaakigaaDoor.V

