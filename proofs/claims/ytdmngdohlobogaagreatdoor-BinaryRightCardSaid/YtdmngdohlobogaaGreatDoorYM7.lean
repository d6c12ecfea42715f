import Derived.Test.YtdmngdohlobogaaGreatDoorYM6
import Derived.Test.YtdmngdohlobogaaGreatDoorYM5
import Derived.Defers
import Derived.Recover
section
namespace Go.Proofs.YtdmngdohlobogaaGreatDoor.Asc
open Go Go.RowKit Go.Proofs.YtdmngdohlobogaaGreatDoorW.PrintWords Go.Proofs.YtdmngdohlobogaaGreatDoorW.PrintLast Go.Proofs.YtdmngdohlobogaaGreatDoorW.PrintMore
set_option linter.unusedVariables false
set_option linter.unusedSimpArgs false
def kindsS : ByteArray:=⟨#[105,108,111,98,99,106,102]⟩
def cutS (l : ByteArray) (c : UInt8) : ByteArray × ByteArray × Bool:=(⟨(Lib.cut l.data.toList [c]).1.toArray⟩,⟨(Lib.cut l.data.toList [c]).2.1.toArray⟩,(Lib.cut l.data.toList [c]).2.2)
def symOf (c : ByteArray × ByteArray × Bool) : S59 × Bool :=
 if c.2.2 = false then (⟨0,0,ByteArray.empty⟩,false)
 else if c.2.1.size = 0 then (⟨0,0,ByteArray.empty⟩,false)
 else if c.1.size < 2 then (⟨0,0,ByteArray.empty⟩,false)
 else if Lib.contains kindsS.data.toList (c.1.extract 0 1).data.toList = false then (⟨0,0,ByteArray.empty⟩,false)
 else (⟨bt c.1 0,(numA (c.1.extract 1 c.1.size)).1,c.2.1⟩,(numA (c.1.extract 1 c.1.size)).2)
def symF (l : ByteArray) : S59 × Bool:=symOf (cutS l 32)
theorem cut_calls (l : ByteArray) (c : UInt8) (w : World) (hG : GV w) (hl : l.size ≤ 1048576) :
  Calls Tryz.prog 51 #[.string l,.string ⟨#[c]⟩] w fun e w' => e = .returned (.tuple #[.string (cutS l c).1,.string (cutS l c).2.1,.bool (cutS l c).2.2]) ∧ Below w.heap.size w w' :=
 Stim.strings_Cut.calls l ⟨#[c]⟩ _ _ _ w hG (by unfold Stim.strings_Cut.f;rw [if_pos (by omega)];rfl)
theorem cut_size (l : ByteArray) (c : UInt8) : (cutS l c).1.size ≤ l.size ∧ (cutS l c).2.1.size ≤ l.size:=by
 unfold cutS Lib.cut
 split
 ·refine ⟨?_,?_⟩
  ·show (l.data.toList.take _).toArray.size ≤ _
   rw [List.size_toArray,List.length_take,data_length]
   omega
  ·show (l.data.toList.drop _).toArray.size ≤ _
   rw [List.size_toArray,List.length_drop,data_length]
   omega
 ·refine ⟨?_,?_⟩
  ·show l.data.toList.toArray.size ≤ _
   rw [List.size_toArray,data_length]
   omega
  ·show ([] : List UInt8).toArray.size ≤ _
   simp
theorem has_calls (sub : ByteArray) (w : World) (hG : GV w) : Calls Tryz.prog 83 #[.string kindsS,.string sub] w fun e w' => e = .returned (.bool (Lib.contains kindsS.data.toList sub.data.toList)) ∧ w' = w:=by
 obtain ⟨m,hm⟩:=hG.max
 have hc : w.cell? ⟨0,0,none⟩ = some (.int .i64 m):=by
  have:=World.var?_cell (P:=Tryz.prog) (g:=0) (by kernel_rfl) hm 0
  simpa using this
 exact Tryz.strings_Contains kindsS sub m w (by decide) hc
def SymEnd (w : World) (x : S59 × Bool) (e : Ending) (w' : World) : Prop:=e = .returned (.tuple #[.agg #[.int .u8 x.1.f0,.int .i64 x.1.f1,.string x.1.f2],.bool x.2]) ∧ Below w.heap.size w w'
theorem blk3 {w : World} {g t : Nat} {x y z : Value} (h : w.heap[g]? = some (.cells #[x,y,z] t (0,0))) (a b c : Value) : (((w.setCell ⟨g,0,none⟩ a).setCell ⟨g,1,none⟩ b).setCell ⟨g,2,none⟩ c).heap[g]? = some (.cells #[a,b,c] t (0,0)):=by
 have:=blk_set (blk_set (blk_set h 0 a) 1 b) 2 c
 simpa using this
theorem below3 {w W : World} {g : Nat} {B : Nat} (h : Below B w W) (hg : B ≤ g) (a b c : Value) : Below B w (((W.setCell ⟨g,0,none⟩ a).setCell ⟨g,1,none⟩ b).setCell ⟨g,2,none⟩ c) :=
 ((h.setCell (p:=⟨g,0,none⟩) hg _).setCell (p:=⟨g,1,none⟩) hg _).setCell (p:=⟨g,2,none⟩) hg _
theorem info59s : (Tryz.prog.info? 77).map (·.size) = some 3:=by kernel_rfl
set_option maxHeartbeats 2000000 in
set_option maxRecDepth 100000 in
theorem sym_calls (l : ByteArray) (w : World) (hG : GV w) (hl : l.size ≤ 1048576) : Calls Tryz.prog 57 #[.string l] w (SymEnd w (symF l)):=by
 have hsz:=cut_size l 32
 unfold symF
 obtain ⟨first,name,ok,hc⟩ : ∃ f n o,cutS l 32 = (f,n,o):=⟨_,_,_,rfl⟩
 have HC:=cut_calls l 32
 rw [hc] at hsz HC ⊢
 dsimp only at hsz HC
 have HC:=Lib.hid HC
 have HG:=Lib.hid hG
 have HL:=Lib.hid hl
 have hfs : first.size ≤ 1048576:=by omega
 have HFS:=Lib.hid hfs
 obtain ⟨res,hres⟩ : ∃ res,symOf (first,name,ok) = res:=⟨_,rfl⟩
 rw [hres]
 unfold symOf at hres
 dsimp only at hres
 have hB : Below w.heap.size w (w.alloc (.cells #[.int .u8 0,.int .i64 0,.string ⟨#[]⟩] 77)):=eA_ (Below.refl _ _) _
 have HB:=Lib.hid hB
 clear hc hG hl hsz hfs hB
 cases ok with
 |false =>
  rw [if_pos rfl] at hres
  subst hres
  go_enter Tryz.func57,Tryz.ntmps57
  go_wp2_with (first|(go_at_call 51;refine (HC.out _ (GV_below HG.out HB.out) HL.out).mono ?_;rintro e w1 ⟨rfl,hb⟩;have hblk : w1.heap[w.heap.size]? = some (.cells #[.int .u8 0,.int .i64 0,.string ⟨#[]⟩] 77 (0,0)):=(hb.block _ (by simp)).trans (blk_new w _);have y0:=bC_ hblk 0;have y1:=bC_ hblk 1;have y2:=bC_ hblk 2;have z0:=bF_ hblk 0;have z1:=bF_ hblk 1;have z2:=bF_ hblk 2;have HBK:=Lib.hid hblk;have HB1:=Lib.hid (HB.out.trans (hb.mono HB.out.size));clear hb hblk))
  show bodyPost _ _ _ _ _ _
  refine bodyPost_ret (results_ct rfl _ _ _ 77 _ _ _ rfl (blk3 HBK.out _ _ _) Tryz.underlying77 rfl info59s) rfl ?_
  exact ⟨rfl,below3 HB1.out (Nat.le_refl _) _ _ _⟩
 |true =>
  rw [if_neg (by decide)] at hres
  by_cases cn : name.size = 0
  ·rw [if_pos cn] at hres
   have hne : name.toList = []:=by
    rw [Lib.toList_data]
    exact List.eq_nil_of_length_eq_zero (by rw [data_length];exact cn)
   have hnb : name.toList.isEmpty = true:=by rw [hne];rfl
   subst hres
   clear cn
   go_enter Tryz.func57,Tryz.ntmps57
   go_wp2_with (first|(go_at_call 51;refine (HC.out _ (GV_below HG.out HB.out) HL.out).mono ?_;rintro e w1 ⟨rfl,hb⟩;have hblk : w1.heap[w.heap.size]? = some (.cells #[.int .u8 0,.int .i64 0,.string ⟨#[]⟩] 77 (0,0)):=(hb.block _ (by simp)).trans (blk_new w _);have y0:=bC_ hblk 0;have y1:=bC_ hblk 1;have y2:=bC_ hblk 2;have z0:=bF_ hblk 0;have z1:=bF_ hblk 1;have z2:=bF_ hblk 2;have HBK:=Lib.hid hblk;have HB1:=Lib.hid (HB.out.trans (hb.mono HB.out.size));clear hb hblk))
   show bodyPost _ _ _ _ _ _
   refine bodyPost_ret (results_ct rfl _ _ _ 77 _ _ _ rfl (blk3 HBK.out _ _ _) Tryz.underlying77 rfl info59s) rfl ?_
   exact ⟨rfl,below3 HB1.out (Nat.le_refl _) _ _ _⟩
  ·rw [if_neg cn] at hres
   have hne : ¬ name.toList = []:=by
    rw [Lib.toList_data]
    intro h
    exact cn (by rw [← data_length,h];rfl)
   have hnb : name.toList.isEmpty = false:=by
    cases h : name.toList with
    |nil => exact absurd h hne
    |cons a b => rfl
   clear cn
   by_cases cf : first.size < 2
   ·rw [if_pos cf] at hres
    have cfb : decide ((first.size : Int) < 2) = true:=decide_eq_true (by omega)
    subst hres
    clear cf hne
    go_enter Tryz.func57,Tryz.ntmps57
    go_wp2_with (first|(go_at_call 51;refine (HC.out _ (GV_below HG.out HB.out) HL.out).mono ?_;rintro e w1 ⟨rfl,hb⟩;have hblk : w1.heap[w.heap.size]? = some (.cells #[.int .u8 0,.int .i64 0,.string ⟨#[]⟩] 77 (0,0)):=(hb.block _ (by simp)).trans (blk_new w _);have y0:=bC_ hblk 0;have y1:=bC_ hblk 1;have y2:=bC_ hblk 2;have z0:=bF_ hblk 0;have z1:=bF_ hblk 1;have z2:=bF_ hblk 2;have HBK:=Lib.hid hblk;have HB1:=Lib.hid (HB.out.trans (hb.mono HB.out.size));clear hb hblk))
    show bodyPost _ _ _ _ _ _
    refine bodyPost_ret (results_ct rfl _ _ _ 77 _ _ _ rfl (blk3 HBK.out _ _ _) Tryz.underlying77 rfl info59s) rfl ?_
    exact ⟨rfl,below3 HB1.out (Nat.le_refl _) _ _ _⟩
   ·rw [if_neg cf] at hres
    have cfb : decide ((first.size : Int) < 2) = false:=decide_eq_false (by omega)
    have h1s : (1 : Int) ≤ (first.size : Int):=by omega
    have h0s : 0 < first.size:=by omega
    obtain ⟨ct,hct⟩ : ∃ ct,Lib.contains kindsS.data.toList (first.extract 0 1).data.toList = ct:=⟨_,rfl⟩
    rw [hct] at hres
    have HCT:=Lib.hid hct
    clear hct
    cases ct with
    |false =>
     rw [if_pos rfl] at hres
     subst hres
     clear cf hne
     go_enter Tryz.func57,Tryz.ntmps57
     go_wp2_with (first|(go_at_call 51;refine (HC.out _ (GV_below HG.out HB.out) HL.out).mono ?_;rintro e w1 ⟨rfl,hb⟩;have hblk : w1.heap[w.heap.size]? = some (.cells #[.int .u8 0,.int .i64 0,.string ⟨#[]⟩] 77 (0,0)):=(hb.block _ (by simp)).trans (blk_new w _);have y0:=bC_ hblk 0;have y1:=bC_ hblk 1;have y2:=bC_ hblk 2;have z0:=bF_ hblk 0;have z1:=bF_ hblk 1;have z2:=bF_ hblk 2;have HBK:=Lib.hid hblk;have HB1:=Lib.hid (HB.out.trans (hb.mono HB.out.size));clear hb hblk)|(go_at_call 83;refine (has_calls _ _ (GV_below HG.out HB1.out)).mono ?_;rintro e w2 ⟨rfl,rfl⟩;rw [HCT.out]))
     show bodyPost _ _ _ _ _ _
     refine bodyPost_ret (results_ct rfl _ _ _ 77 _ _ _ rfl (blk3 HBK.out _ _ _) Tryz.underlying77 rfl info59s) rfl ?_
     exact ⟨rfl,below3 HB1.out (Nat.le_refl _) _ _ _⟩
    |true =>
     rw [if_neg (by decide)] at hres
     have hbt : bt first 0 = ((first[0]'h0s).toNat : Int):=by simp [bt,h0s]
     rw [hbt] at hres
     subst hres
     obtain ⟨nn,hnn⟩ : ∃ nn,numA (first.extract 1 first.size) = nn:=⟨_,rfl⟩
     rw [hnn]
     have HNN:=Lib.hid hnn
     clear cf hne hnn hbt
     go_enter Tryz.func57,Tryz.ntmps57
     go_wp2_with (first|(go_at_call 51;refine (HC.out _ (GV_below HG.out HB.out) HL.out).mono ?_;rintro e w1 ⟨rfl,hb⟩;have hblk : w1.heap[w.heap.size]? = some (.cells #[.int .u8 0,.int .i64 0,.string ⟨#[]⟩] 77 (0,0)):=(hb.block _ (by simp)).trans (blk_new w _);have y0:=bC_ hblk 0;have y1:=bC_ hblk 1;have y2:=bC_ hblk 2;have z0:=bF_ hblk 0;have z1:=bF_ hblk 1;have z2:=bF_ hblk 2;have HBK:=Lib.hid hblk;have HB1:=Lib.hid (HB.out.trans (hb.mono HB.out.size));clear hb hblk)|(go_at_call 83;refine (has_calls _ _ (GV_below HG.out HB1.out)).mono ?_;rintro e w2 ⟨rfl,rfl⟩;rw [HCT.out])|(go_at_call 79;refine (number_calls _ _ (GV_below HG.out HB1.out) (by have:=HFS.out;simp;omega)).mono ?_;rintro e w3 ⟨rfl,hb⟩;rw [HNN.out];have hblk : w3.heap[w.heap.size]? = some (.cells #[.int .u8 0,.int .i64 0,.string ⟨#[]⟩] 77 (0,0)):=(hb.block _ (blk_lt HBK.out)).trans HBK.out;have y0:=bC_ hblk 0;have y1:=bC_ hblk 1;have y2:=bC_ hblk 2;have z0:=bF_ hblk 0;have z1:=bF_ hblk 1;have z2:=bF_ hblk 2;have HBK3:=Lib.hid hblk;have HB3:=Lib.hid (HB1.out.trans (hb.mono HB1.out.size));clear hb hblk))
     show bodyPost _ _ _ _ _ _
     refine bodyPost_ret (results_ct rfl _ _ _ 77 _ _ _ rfl (blk3 HBK3.out _ _ _) Tryz.underlying77 rfl info59s) rfl ?_
     exact ⟨rfl,below3 HB3.out (Nat.le_refl _) _ _ _⟩
end Go.Proofs.YtdmngdohlobogaaGreatDoor.Asc
end
section
namespace Go.Proofs.YtdmngdohlobogaaGreatDoor.Asc
open Go Go.RowKit Go.Proofs.YtdmngdohlobogaaGreatDoorW.PrintWords Go.Proofs.YtdmngdohlobogaaGreatDoorW.PrintLast Go.Proofs.YtdmngdohlobogaaGreatDoorW.PrintMore
set_option linter.unusedVariables false
set_option linter.unusedSimpArgs false
theorem run_assert40 (x : Value) (w : World) : (Instr.typeAssert (.iface 32 x) 20 32 false).run Tryz.prog w = .ok x w:=by
 simp [Instr.typeAssert,run_underlying Tryz.underlying32]
theorem tail_idle (p q r : Addr) (w : World) :
  CallsD Tryz.prog 55 #[.pointer (some p),.pointer (some q),.pointer (some r)] .returning w fun e u' w' => e = .returned (.tuple #[]) ∧ u' = .returning ∧ w' = w:=by
 refine callsD_of_wpS Tryz.func55 rfl fun c₀ cs hu => ?_
 apply wpS_seq
 apply wpS_region
 simp [wpOpsS,go_sem,recoverD,hu,Tryz.ntmps55,Exit.thenS]
 refine wpS_of_wp ?_
 simp only [Array.replicate_succ,Array.replicate_zero,List.push_toArray,List.append_toArray,List.nil_append,List.cons_append,sA_,sB_,sC_,List.size_toArray]
 go_wp2
 cases c₀
 simp_all [bodyPostS,results,Tryz.results53]
set_option maxRecDepth 100000 in
theorem tail_catch (S C F : Nat) (p c : Int) (older : List PanicEntry) (w : World) (x1 x2 x3 x4 : Value) (hS : w.heap[S]? = some (.cells #[x1] 26 (0,0))) (hC : w.heap[C]? = some (.cells #[x2] 27 (0,0))) (hF : w.heap[F]? = some (.cells #[x3,x4] 32 (0,0))) :
  CallsD Tryz.prog 55 #[.pointer (some ⟨S,0,none⟩),.pointer (some ⟨C,0,none⟩),.pointer (some ⟨F,0,none⟩)] (.panicking ({ v:=.iface 32 (faultV p c),recovered:=false } :: older)) w fun e u' w' =>
   e = .returned (.tuple #[]) ∧ u' = .panicking ({ v:=.iface 32 (faultV p c),recovered:=true } :: older) ∧ w'.heap[S]? = some (.cells #[.slice none 0 0] 26 (0,0)) ∧ w'.heap[C]? = some (.cells #[.slice none 0 0] 27 (0,0)) ∧ w'.heap[F]? = some (.cells #[.int .i64 p,.int .i64 c] 32 (0,0)) ∧ ∀ B,B ≤ S → B ≤ C → B ≤ F → Below B w w':=by
 unfold faultV
 refine callsD_of_wpS Tryz.func55 rfl fun c₀ cs hu => ?_
 apply wpS_seq
 apply wpS_region
 simp [wpOpsS,go_sem,recoverD,hu,Tryz.ntmps55,Exit.thenS]
 refine wpS_of_wp ?_
 simp only [Array.replicate_succ,Array.replicate_zero,List.push_toArray,List.append_toArray,List.nil_append,List.cons_append,sA_,sB_,sC_,List.size_toArray]
 go_wp2
 have hta:=run_assert40
 have e0:=bC_ hS 0
 have g0:=bF_ hS 0
 have e1:=bC_ hC 0
 have g1:=bF_ hC 0
 have e2:=bC_ hF 0
 have g2:=bF_ hF 0
 have e3:=bC_ hF 1
 have g3:=bF_ hF 1
 have hCS : C ≠ S:=blk_ne hC hS (by decide)
 have hFS : F ≠ S:=blk_ne hF hS (by decide)
 have hFC : F ≠ C:=blk_ne hF hC (by decide)
 refine wp_normal' ?_
 refine start_ (n:=5) (S:=fun w' => True) (ds:=[2,3,4]) (Array.replicate 5 false) (by kernel_rfl) rfl rfl trivial (fun hHeld => ?_)
 refine pure_ (i:=0) (N:=some 7) (v:=?_) (a':=?_) (zA_ 5 1) rfl rfl (by kernel_rfl) (fun _ _ _ h => by cases h.1) (Or.inl ⟨by rfl,?_⟩) ?_ ?_
 rotate_left
 ·intro w'
  go_simp
  with_reducible rfl
 rotate_left
 ·simp only [Act.put,sA_,sB_,sC_]
  rfl
 refine pure_ (i:=1) (N:=some 8) (v:=?_) (a':=?_) (zA_ 5 3) rfl rfl (by kernel_rfl) (fun _ _ _ h => by cases h.1) (Or.inl ⟨by rfl,?_⟩) ?_ ?_
 rotate_left
 ·intro w'
  go_simp
  with_reducible rfl
 rotate_left
 ·simp only [Act.put,sA_,sB_,sC_]
  rfl
 refine last_ (i:=2) (N:=none) (zA_ 5 7) rfl rfl (by kernel_rfl) (by decide) (fun K hK => ?_)
 refine skip_ (w1:=w.drew.setCell ⟨S,0,none⟩ (.slice none 0 0)) rfl rfl ?_ ?_
 ·go_simp
 refine hK.out _ _ ?_
 clear hK K
 refine last_ (i:=3) (N:=none) (zA_ 5 15) rfl rfl (by kernel_rfl) (by decide) (fun K hK => ?_)
 refine skip_ (w1:=(w.drew.setCell ⟨S,0,none⟩ (.slice none 0 0)).setCell ⟨C,0,none⟩ (.slice none 0 0)) rfl rfl ?_ ?_
 ·go_simp
 refine hK.out _ _ ?_
 clear hK K
 refine last_ (i:=4) (N:=none) (zA_ 5 31) rfl rfl (by kernel_rfl) (by decide) (fun K hK => ?_)
 refine skip_ (w1:=(((w.drew.setCell ⟨S,0,none⟩ (.slice none 0 0)).setCell ⟨C,0,none⟩ (.slice none 0 0)).setCell ⟨F,0,none⟩ (.int .i64 p)).setCell ⟨F,1,none⟩ (.int .i64 c)) rfl rfl ?_ ?_
 ·go_simp
 refine hK.out _ _ ?_
 clear hK K
 refine done_ (by kernel_rfl) ?_
 have kS:=blk_set (w:=w.drew) hS 0 (.slice none 0 0)
 have kC:=blk_set (blk_far (w:=w.drew) hC (p:=⟨S,0,none⟩) hCS (.slice none 0 0)) 0 (.slice none 0 0)
 have kF:=blk_set (blk_set (blk_far (blk_far (w:=w.drew) hF (p:=⟨S,0,none⟩) hFS (.slice none 0 0)) (p:=⟨C,0,none⟩) hFC (.slice none 0 0)) 0 (.int .i64 p)) 1 (.int .i64 c)
 have rS:=blk_far (blk_far (blk_far kS (p:=⟨C,0,none⟩) (Ne.symm hCS) (.slice none 0 0)) (p:=⟨F,0,none⟩) (Ne.symm hFS) (.int .i64 p)) (p:=⟨F,1,none⟩) (Ne.symm hFS) (.int .i64 c)
 have rC:=blk_far (blk_far kC (p:=⟨F,0,none⟩) (Ne.symm hFC) (.int .i64 p)) (p:=⟨F,1,none⟩) (Ne.symm hFC) (.int .i64 c)
 refine ⟨rfl,?_⟩
 show bodyPostS _ _ _ _ _ _ _ _ _
 exact ⟨rfl,_,rfl,_,results_none rfl _ _ _,rfl,rfl,rS,rC,kF,fun B b1 b2 b3 => ((((below_drew (Below.refl _ _)).setCell (p:=⟨S,0,none⟩) b1 _).setCell (p:=⟨C,0,none⟩) b2 _).setCell (p:=⟨F,0,none⟩) b3 _).setCell (p:=⟨F,1,none⟩) b3 _⟩
theorem blk11 {w : World} {S t : Nat} {x0 x1 x2 x3 x4 x5 x6 x7 x8 x9 x10 : Value} (h : w.heap[S]? = some (.cells #[x0,x1,x2,x3,x4,x5,x6,x7,x8,x9,x10] t (0,0))) (a0 a1 a2 a3 a4 a5 a6 a7 a8 a9 a10 : Value) : ((((((((((((w).setCell ⟨S,0,none⟩ a0).setCell ⟨S,1,none⟩ a1).setCell ⟨S,2,none⟩ a2).setCell ⟨S,3,none⟩ a3).setCell ⟨S,4,none⟩ a4).setCell ⟨S,5,none⟩ a5).setCell ⟨S,6,none⟩ a6).setCell ⟨S,7,none⟩ a7).setCell ⟨S,8,none⟩ a8).setCell ⟨S,9,none⟩ a9).setCell ⟨S,10,none⟩ a10).heap[S]? = some (.cells #[a0,a1,a2,a3,a4,a5,a6,a7,a8,a9,a10] t (0,0)):=by
 have:=(blk_set (blk_set (blk_set (blk_set (blk_set (blk_set (blk_set (blk_set (blk_set (blk_set (blk_set h 0 a0) 1 a1) 2 a2) 3 a3) 4 a4) 5 a5) 6 a6) 7 a7) 8 a8) 9 a9) 10 a10)
 simpa using this
theorem far11 {w : World} {S F t : Nat} {cs : Array Value} (h : w.heap[F]? = some (.cells cs t (0,0))) (hne : F ≠ S) (a0 a1 a2 a3 a4 a5 a6 a7 a8 a9 a10 : Value) : ((((((((((((w).setCell ⟨S,0,none⟩ a0).setCell ⟨S,1,none⟩ a1).setCell ⟨S,2,none⟩ a2).setCell ⟨S,3,none⟩ a3).setCell ⟨S,4,none⟩ a4).setCell ⟨S,5,none⟩ a5).setCell ⟨S,6,none⟩ a6).setCell ⟨S,7,none⟩ a7).setCell ⟨S,8,none⟩ a8).setCell ⟨S,9,none⟩ a9).setCell ⟨S,10,none⟩ a10).heap[F]? = some (.cells cs t (0,0)):=(blk_far (blk_far (blk_far (blk_far (blk_far (blk_far (blk_far (blk_far (blk_far (blk_far (blk_far h (p:=⟨S,0,none⟩) hne a0) (p:=⟨S,1,none⟩) hne a1) (p:=⟨S,2,none⟩) hne a2) (p:=⟨S,3,none⟩) hne a3) (p:=⟨S,4,none⟩) hne a4) (p:=⟨S,5,none⟩) hne a5) (p:=⟨S,6,none⟩) hne a6) (p:=⟨S,7,none⟩) hne a7) (p:=⟨S,8,none⟩) hne a8) (p:=⟨S,9,none⟩) hne a9) (p:=⟨S,10,none⟩) hne a10)
theorem below11 {w W : World} {B S : Nat} (h : Below B w W) (b1 : B ≤ S) (a0 a1 a2 a3 a4 a5 a6 a7 a8 a9 a10 : Value) : Below B w ((((((((((((W).setCell ⟨S,0,none⟩ a0).setCell ⟨S,1,none⟩ a1).setCell ⟨S,2,none⟩ a2).setCell ⟨S,3,none⟩ a3).setCell ⟨S,4,none⟩ a4).setCell ⟨S,5,none⟩ a5).setCell ⟨S,6,none⟩ a6).setCell ⟨S,7,none⟩ a7).setCell ⟨S,8,none⟩ a8).setCell ⟨S,9,none⟩ a9).setCell ⟨S,10,none⟩ a10):=(((((((((((h.setCell (p:=⟨S,0,none⟩) b1 _).setCell (p:=⟨S,1,none⟩) b1 _).setCell (p:=⟨S,2,none⟩) b1 _).setCell (p:=⟨S,3,none⟩) b1 _).setCell (p:=⟨S,4,none⟩) b1 _).setCell (p:=⟨S,5,none⟩) b1 _).setCell (p:=⟨S,6,none⟩) b1 _).setCell (p:=⟨S,7,none⟩) b1 _).setCell (p:=⟨S,8,none⟩) b1 _).setCell (p:=⟨S,9,none⟩) b1 _).setCell (p:=⟨S,10,none⟩) b1 _)
theorem blk2 {w : World} {S t : Nat} {x0 x1 : Value} (h : w.heap[S]? = some (.cells #[x0,x1] t (0,0))) (a0 a1 : Value) : ((w.setCell ⟨S,0,none⟩ a0).setCell ⟨S,1,none⟩ a1).heap[S]? = some (.cells #[a0,a1] t (0,0)):=by
 have:=blk_set (blk_set h 0 a0) 1 a1
 simpa using this
end Go.Proofs.YtdmngdohlobogaaGreatDoor.Asc
end
