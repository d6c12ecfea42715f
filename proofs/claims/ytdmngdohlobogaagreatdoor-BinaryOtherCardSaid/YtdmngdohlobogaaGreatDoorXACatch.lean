import Derived.Test.YtdmngdohlobogaaGreatDoorXM5
import Derived.Defers
import Derived.Recover
namespace Go.Proofs.YtdmngdohlobogaaGreatDoor.Asc
open Go Go.RowKit Go.Proofs.YtdmngdohlobogaaGreatDoorW.PrintWords Go.Proofs.YtdmngdohlobogaaGreatDoorW.PrintLast Go.Proofs.YtdmngdohlobogaaGreatDoorW.PrintMore
set_option linter.unusedVariables false
set_option linter.unusedSimpArgs false
theorem run_assert40 (x : Value) (w : World) : (Instr.typeAssert (.iface 32 x) 20 32 false).run Tryz.prog w = .ok x w:=by
 simp [Instr.typeAssert,run_underlying Tryz.underlying32]
theorem tail_idle (p q r : Addr) (w : World) :
  CallsD Tryz.prog 55 #[.pointer (some p),.pointer (some q),.pointer (some r)] .returning w fun e u' w' => e = .returned (.tuple #[]) ∧ u' = .returning ∧ w' = w:=by
 refine callsD_of_wpS Tryz.func55 rfl fun c₀ cs hu => ?_
 apply wpS_seq
 apply wpS_region
 simp [wpOpsS,go_sem,recoverD,hu,Tryz.ntmps55,Exit.thenS]
 refine wpS_of_wp ?_
 simp only [Array.replicate_succ,Array.replicate_zero,List.push_toArray,List.append_toArray,List.nil_append,List.cons_append,sA_,sB_,sC_,List.size_toArray]
 go_wp2
 cases c₀
 simp_all [bodyPostS,results,Tryz.results53]
set_option maxRecDepth 100000 in
theorem tail_catch (S C F : Nat) (p c : Int) (older : List PanicEntry) (w : World) (x1 x2 x3 x4 : Value) (hS : w.heap[S]? = some (.cells #[x1] 26 (0,0))) (hC : w.heap[C]? = some (.cells #[x2] 27 (0,0))) (hF : w.heap[F]? = some (.cells #[x3,x4] 32 (0,0))) :
  CallsD Tryz.prog 55 #[.pointer (some ⟨S,0,none⟩),.pointer (some ⟨C,0,none⟩),.pointer (some ⟨F,0,none⟩)] (.panicking ({ v:=.iface 32 (faultV p c),recovered:=false } :: older)) w fun e u' w' =>
   e = .returned (.tuple #[]) ∧ u' = .panicking ({ v:=.iface 32 (faultV p c),recovered:=true } :: older) ∧ w'.heap[S]? = some (.cells #[.slice none 0 0] 26 (0,0)) ∧ w'.heap[C]? = some (.cells #[.slice none 0 0] 27 (0,0)) ∧ w'.heap[F]? = some (.cells #[.int .i64 p,.int .i64 c] 32 (0,0)) ∧ ∀ B,B ≤ S → B ≤ C → B ≤ F → Below B w w':=by
 unfold faultV
 refine callsD_of_wpS Tryz.func55 rfl fun c₀ cs hu => ?_
 apply wpS_seq
 apply wpS_region
 simp [wpOpsS,go_sem,recoverD,hu,Tryz.ntmps55,Exit.thenS]
 refine wpS_of_wp ?_
 simp only [Array.replicate_succ,Array.replicate_zero,List.push_toArray,List.append_toArray,List.nil_append,List.cons_append,sA_,sB_,sC_,List.size_toArray]
 go_wp2
 have hta:=run_assert40
 have e0:=bC_ hS 0
 have g0:=bF_ hS 0
 have e1:=bC_ hC 0
 have g1:=bF_ hC 0
 have e2:=bC_ hF 0
 have g2:=bF_ hF 0
 have e3:=bC_ hF 1
 have g3:=bF_ hF 1
 have hCS : C ≠ S:=blk_ne hC hS (by decide)
 have hFS : F ≠ S:=blk_ne hF hS (by decide)
 have hFC : F ≠ C:=blk_ne hF hC (by decide)
 refine wp_normal' ?_
 refine start_ (n:=5) (S:=fun w' => True) (ds:=[2,3,4]) #[false,false,false,false,false] (by kernel_rfl) rfl rfl trivial (fun hHeld => ?_)
 refine pure_ (i:=0) (N:=some 7) (v:=?_) (a':=?_) #[true,false,false,false,false] rfl rfl (by kernel_rfl) (fun _ _ _ h => by cases h.1) (Or.inl ⟨by rfl,?_⟩) ?_ ?_
 rotate_left
 ·intro w'
  go_simp
  with_reducible rfl
 rotate_left
 ·simp only [Act.put,sA_,sB_,sC_]
  rfl
 refine pure_ (i:=1) (N:=some 8) (v:=?_) (a':=?_) #[true,true,false,false,false] rfl rfl (by kernel_rfl) (fun _ _ _ h => by cases h.1) (Or.inl ⟨by rfl,?_⟩) ?_ ?_
 rotate_left
 ·intro w'
  go_simp
  with_reducible rfl
 rotate_left
 ·simp only [Act.put,sA_,sB_,sC_]
  rfl
 refine last_ (i:=2) (N:=none) #[true,true,true,false,false] rfl rfl (by kernel_rfl) (by decide) (fun K hK => ?_)
 refine skip_ (w1:=w.drew.setCell ⟨S,0,none⟩ (.slice none 0 0)) rfl rfl ?_ ?_
 ·go_simp
 refine hK.out _ _ ?_
 clear hK K
 refine last_ (i:=3) (N:=none) #[true,true,true,true,false] rfl rfl (by kernel_rfl) (by decide) (fun K hK => ?_)
 refine skip_ (w1:=(w.drew.setCell ⟨S,0,none⟩ (.slice none 0 0)).setCell ⟨C,0,none⟩ (.slice none 0 0)) rfl rfl ?_ ?_
 ·go_simp
 refine hK.out _ _ ?_
 clear hK K
 refine last_ (i:=4) (N:=none) #[true,true,true,true,true] rfl rfl (by kernel_rfl) (by decide) (fun K hK => ?_)
 refine skip_ (w1:=(((w.drew.setCell ⟨S,0,none⟩ (.slice none 0 0)).setCell ⟨C,0,none⟩ (.slice none 0 0)).setCell ⟨F,0,none⟩ (.int .i64 p)).setCell ⟨F,1,none⟩ (.int .i64 c)) rfl rfl ?_ ?_
 ·go_simp
 refine hK.out _ _ ?_
 clear hK K
 refine done_ (by kernel_rfl) ?_
 have kS:=blk_set (w:=w.drew) hS 0 (.slice none 0 0)
 have kC:=blk_set (blk_far (w:=w.drew) hC (p:=⟨S,0,none⟩) hCS (.slice none 0 0)) 0 (.slice none 0 0)
 have kF:=blk_set (blk_set (blk_far (blk_far (w:=w.drew) hF (p:=⟨S,0,none⟩) hFS (.slice none 0 0)) (p:=⟨C,0,none⟩) hFC (.slice none 0 0)) 0 (.int .i64 p)) 1 (.int .i64 c)
 have rS:=blk_far (blk_far (blk_far kS (p:=⟨C,0,none⟩) (Ne.symm hCS) (.slice none 0 0)) (p:=⟨F,0,none⟩) (Ne.symm hFS) (.int .i64 p)) (p:=⟨F,1,none⟩) (Ne.symm hFS) (.int .i64 c)
 have rC:=blk_far (blk_far kC (p:=⟨F,0,none⟩) (Ne.symm hFC) (.int .i64 p)) (p:=⟨F,1,none⟩) (Ne.symm hFC) (.int .i64 c)
 refine ⟨rfl,?_⟩
 show bodyPostS _ _ _ _ _ _ _ _ _
 exact ⟨rfl,_,rfl,_,results_none rfl _ _ _,rfl,rfl,rS,rC,kF,fun B b1 b2 b3 => ((((below_drew (Below.refl _ _)).setCell (p:=⟨S,0,none⟩) b1 _).setCell (p:=⟨C,0,none⟩) b2 _).setCell (p:=⟨F,0,none⟩) b3 _).setCell (p:=⟨F,1,none⟩) b3 _⟩
theorem blk11 {w : World} {S t : Nat} {x0 x1 x2 x3 x4 x5 x6 x7 x8 x9 x10 : Value} (h : w.heap[S]? = some (.cells #[x0,x1,x2,x3,x4,x5,x6,x7,x8,x9,x10] t (0,0))) (a0 a1 a2 a3 a4 a5 a6 a7 a8 a9 a10 : Value) : ((((((((((((w).setCell ⟨S,0,none⟩ a0).setCell ⟨S,1,none⟩ a1).setCell ⟨S,2,none⟩ a2).setCell ⟨S,3,none⟩ a3).setCell ⟨S,4,none⟩ a4).setCell ⟨S,5,none⟩ a5).setCell ⟨S,6,none⟩ a6).setCell ⟨S,7,none⟩ a7).setCell ⟨S,8,none⟩ a8).setCell ⟨S,9,none⟩ a9).setCell ⟨S,10,none⟩ a10).heap[S]? = some (.cells #[a0,a1,a2,a3,a4,a5,a6,a7,a8,a9,a10] t (0,0)):=by
 have:=(blk_set (blk_set (blk_set (blk_set (blk_set (blk_set (blk_set (blk_set (blk_set (blk_set (blk_set h 0 a0) 1 a1) 2 a2) 3 a3) 4 a4) 5 a5) 6 a6) 7 a7) 8 a8) 9 a9) 10 a10)
 simpa using this
theorem far11 {w : World} {S F t : Nat} {cs : Array Value} (h : w.heap[F]? = some (.cells cs t (0,0))) (hne : F ≠ S) (a0 a1 a2 a3 a4 a5 a6 a7 a8 a9 a10 : Value) : ((((((((((((w).setCell ⟨S,0,none⟩ a0).setCell ⟨S,1,none⟩ a1).setCell ⟨S,2,none⟩ a2).setCell ⟨S,3,none⟩ a3).setCell ⟨S,4,none⟩ a4).setCell ⟨S,5,none⟩ a5).setCell ⟨S,6,none⟩ a6).setCell ⟨S,7,none⟩ a7).setCell ⟨S,8,none⟩ a8).setCell ⟨S,9,none⟩ a9).setCell ⟨S,10,none⟩ a10).heap[F]? = some (.cells cs t (0,0)):=(blk_far (blk_far (blk_far (blk_far (blk_far (blk_far (blk_far (blk_far (blk_far (blk_far (blk_far h (p:=⟨S,0,none⟩) hne a0) (p:=⟨S,1,none⟩) hne a1) (p:=⟨S,2,none⟩) hne a2) (p:=⟨S,3,none⟩) hne a3) (p:=⟨S,4,none⟩) hne a4) (p:=⟨S,5,none⟩) hne a5) (p:=⟨S,6,none⟩) hne a6) (p:=⟨S,7,none⟩) hne a7) (p:=⟨S,8,none⟩) hne a8) (p:=⟨S,9,none⟩) hne a9) (p:=⟨S,10,none⟩) hne a10)
theorem below11 {w W : World} {B S : Nat} (h : Below B w W) (b1 : B ≤ S) (a0 a1 a2 a3 a4 a5 a6 a7 a8 a9 a10 : Value) : Below B w ((((((((((((W).setCell ⟨S,0,none⟩ a0).setCell ⟨S,1,none⟩ a1).setCell ⟨S,2,none⟩ a2).setCell ⟨S,3,none⟩ a3).setCell ⟨S,4,none⟩ a4).setCell ⟨S,5,none⟩ a5).setCell ⟨S,6,none⟩ a6).setCell ⟨S,7,none⟩ a7).setCell ⟨S,8,none⟩ a8).setCell ⟨S,9,none⟩ a9).setCell ⟨S,10,none⟩ a10):=(((((((((((h.setCell (p:=⟨S,0,none⟩) b1 _).setCell (p:=⟨S,1,none⟩) b1 _).setCell (p:=⟨S,2,none⟩) b1 _).setCell (p:=⟨S,3,none⟩) b1 _).setCell (p:=⟨S,4,none⟩) b1 _).setCell (p:=⟨S,5,none⟩) b1 _).setCell (p:=⟨S,6,none⟩) b1 _).setCell (p:=⟨S,7,none⟩) b1 _).setCell (p:=⟨S,8,none⟩) b1 _).setCell (p:=⟨S,9,none⟩) b1 _).setCell (p:=⟨S,10,none⟩) b1 _)
theorem blk2 {w : World} {S t : Nat} {x0 x1 : Value} (h : w.heap[S]? = some (.cells #[x0,x1] t (0,0))) (a0 a1 : Value) : ((w.setCell ⟨S,0,none⟩ a0).setCell ⟨S,1,none⟩ a1).heap[S]? = some (.cells #[a0,a1] t (0,0)):=by
 have:=blk_set (blk_set h 0 a0) 1 a1
 simpa using this
theorem read_idle (p q : Addr) (w : World) :
  CallsD Tryz.prog 49 #[.pointer (some p),.pointer (some q)] .returning w fun e u' w' => e = .returned (.tuple #[]) ∧ u' = .returning ∧ w' = w:=by
 refine callsD_of_wpS Tryz.func49 rfl fun c₀ cs hu => ?_
 apply wpS_seq
 apply wpS_region
 simp [wpOpsS,go_sem,recoverD,hu,Tryz.ntmps49,Exit.thenS]
 refine wpS_of_wp ?_
 simp only [Array.replicate_succ,Array.replicate_zero,List.push_toArray,List.append_toArray,List.nil_append,List.cons_append,sA_,sB_,sC_,List.size_toArray]
 go_wp2
 cases c₀
 simp_all [bodyPostS,results,Tryz.results59]
set_option maxRecDepth 100000 in
set_option maxHeartbeats 1000000 in
theorem read_catch (S F : Nat) (p c : Int) (older : List PanicEntry) (w : World) (x0 x1 x2 x3 x4 x5 x6 x7 x8 x9 x10 y0 y1 : Value) (hS : w.heap[S]? = some (.cells #[x0,x1,x2,x3,x4,x5,x6,x7,x8,x9,x10] 29 (0,0))) (hF : w.heap[F]? = some (.cells #[y0,y1] 32 (0,0))) :
  CallsD Tryz.prog 49 #[.pointer (some ⟨S,0,none⟩),.pointer (some ⟨F,0,none⟩)] (.panicking ({ v:=.iface 32 (faultV p c),recovered:=false } :: older)) w fun e u' w' =>
   e = .returned (.tuple #[]) ∧ u' = .panicking ({ v:=.iface 32 (faultV p c),recovered:=true } :: older) ∧ w'.heap[S]? = some (.cells #[.int .i64 0,.slice none 0 0,.slice none 0 0,.slice none 0 0,.slice none 0 0,.slice none 0 0,.slice none 0 0,.slice none 0 0,.slice none 0 0,.slice none 0 0,.slice none 0 0] 29 (0,0)) ∧ w'.heap[F]? = some (.cells #[.int .i64 p,.int .i64 c] 32 (0,0)) ∧ ∀ B,B ≤ S → B ≤ F → Below B w w':=by
 unfold faultV
 refine callsD_of_wpS Tryz.func49 rfl fun c₀ cs hu => ?_
 apply wpS_seq
 apply wpS_region
 simp [wpOpsS,go_sem,recoverD,hu,Tryz.ntmps49,Exit.thenS]
 refine wpS_of_wp ?_
 simp only [Array.replicate_succ,Array.replicate_zero,List.push_toArray,List.append_toArray,List.nil_append,List.cons_append,sA_,sB_,sC_,List.size_toArray]
 go_wp2
 have hta:=run_assert40
 have e0:=bC_ hS 0
 have g0:=bF_ hS 0
 have e1:=bC_ hS 1
 have g1:=bF_ hS 1
 have e2:=bC_ hS 2
 have g2:=bF_ hS 2
 have e3:=bC_ hS 3
 have g3:=bF_ hS 3
 have e4:=bC_ hS 4
 have g4:=bF_ hS 4
 have e5:=bC_ hS 5
 have g5:=bF_ hS 5
 have e6:=bC_ hS 6
 have g6:=bF_ hS 6
 have e7:=bC_ hS 7
 have g7:=bF_ hS 7
 have e8:=bC_ hS 8
 have g8:=bF_ hS 8
 have e9:=bC_ hS 9
 have g9:=bF_ hS 9
 have e10:=bC_ hS 10
 have g10:=bF_ hS 10
 have d0:=bC_ hF 0
 have q0:=bF_ hF 0
 have d1:=bC_ hF 1
 have q1:=bF_ hF 1
 have hFS : F ≠ S:=blk_ne hF hS (by decide)
 refine wp_normal' ?_
 refine start_ (n:=5) (S:=fun w' => True) (ds:=[3,4]) #[false,false,false,false,false] (by kernel_rfl) rfl rfl trivial (fun hHeld => ?_)
 refine pure_ (i:=0) (N:=some 6) (v:=?_) (a':=?_) #[true,false,false,false,false] rfl rfl (by kernel_rfl) (fun _ _ _ h => by cases h.1) (Or.inl ⟨by rfl,?_⟩) ?_ ?_
 rotate_left
 ·intro w'
  go_simp
  with_reducible rfl
 rotate_left
 ·simp only [Act.put,sA_,sB_,sC_]
  rfl
 refine pure_ (i:=1) (N:=some 7) (v:=?_) (a':=?_) #[true,true,false,false,false] rfl rfl (by kernel_rfl) (fun _ _ _ h => by cases h.1) (Or.inl ⟨by rfl,?_⟩) ?_ ?_
 rotate_left
 ·intro w'
  go_simp
  with_reducible rfl
 rotate_left
 ·simp only [Act.put,sA_,sB_,sC_]
  rfl
 refine pure_ (i:=2) (N:=some 8) (v:=?_) (a':=?_) #[true,true,true,false,false] rfl rfl (by kernel_rfl) (fun _ _ _ h => by cases h.1) (Or.inl ⟨by rfl,?_⟩) ?_ ?_
 rotate_left
 ·intro w'
  go_simp
  with_reducible rfl
 rotate_left
 ·simp only [Act.put,sA_,sB_,sC_]
  rfl
 refine last_ (i:=3) (N:=none) #[true,true,true,true,false] rfl rfl (by kernel_rfl) (by decide) (fun K hK => ?_)
 refine skip_ (w1:=(((((((((((w.drew).setCell ⟨S,0,none⟩ (.int .i64 0)).setCell ⟨S,1,none⟩ (.slice none 0 0)).setCell ⟨S,2,none⟩ (.slice none 0 0)).setCell ⟨S,3,none⟩ (.slice none 0 0)).setCell ⟨S,4,none⟩ (.slice none 0 0)).setCell ⟨S,5,none⟩ (.slice none 0 0)).setCell ⟨S,6,none⟩ (.slice none 0 0)).setCell ⟨S,7,none⟩ (.slice none 0 0)).setCell ⟨S,8,none⟩ (.slice none 0 0)).setCell ⟨S,9,none⟩ (.slice none 0 0)).setCell ⟨S,10,none⟩ (.slice none 0 0)) rfl rfl ?_ ?_
 ·go_simp
 refine hK.out _ _ ?_
 clear hK K
 have hS3:=blk11 (w:=w.drew) hS (.int .i64 0) (.slice none 0 0) (.slice none 0 0) (.slice none 0 0) (.slice none 0 0) (.slice none 0 0) (.slice none 0 0) (.slice none 0 0) (.slice none 0 0) (.slice none 0 0) (.slice none 0 0)
 have hF3:=far11 (w:=w.drew) hF hFS (.int .i64 0) (.slice none 0 0) (.slice none 0 0) (.slice none 0 0) (.slice none 0 0) (.slice none 0 0) (.slice none 0 0) (.slice none 0 0) (.slice none 0 0) (.slice none 0 0) (.slice none 0 0)
 have hB3 : ∀ B,B ≤ S → Below B w ((((((((((((w.drew).setCell ⟨S,0,none⟩ (.int .i64 0)).setCell ⟨S,1,none⟩ (.slice none 0 0)).setCell ⟨S,2,none⟩ (.slice none 0 0)).setCell ⟨S,3,none⟩ (.slice none 0 0)).setCell ⟨S,4,none⟩ (.slice none 0 0)).setCell ⟨S,5,none⟩ (.slice none 0 0)).setCell ⟨S,6,none⟩ (.slice none 0 0)).setCell ⟨S,7,none⟩ (.slice none 0 0)).setCell ⟨S,8,none⟩ (.slice none 0 0)).setCell ⟨S,9,none⟩ (.slice none 0 0)).setCell ⟨S,10,none⟩ (.slice none 0 0)):=fun B b1 => below11 (below_drew (Below.refl _ _)) b1 _ _ _ _ _ _ _ _ _ _ _
 clear d0 d1 q0 q1
 generalize (((((((((((w.drew).setCell ⟨S,0,none⟩ (.int .i64 0)).setCell ⟨S,1,none⟩ (.slice none 0 0)).setCell ⟨S,2,none⟩ (.slice none 0 0)).setCell ⟨S,3,none⟩ (.slice none 0 0)).setCell ⟨S,4,none⟩ (.slice none 0 0)).setCell ⟨S,5,none⟩ (.slice none 0 0)).setCell ⟨S,6,none⟩ (.slice none 0 0)).setCell ⟨S,7,none⟩ (.slice none 0 0)).setCell ⟨S,8,none⟩ (.slice none 0 0)).setCell ⟨S,9,none⟩ (.slice none 0 0)).setCell ⟨S,10,none⟩ (.slice none 0 0) = W3 at hS3 hF3 hB3 ⊢
 have d0:=bC_ hF3 0
 have q0:=bF_ hF3 0
 have d1:=bC_ hF3 1
 have q1:=bF_ hF3 1
 refine last_ (i:=4) (N:=none) #[true,true,true,true,true] rfl rfl (by kernel_rfl) (by decide) (fun K hK => ?_)
 refine skip_ (w1:=(W3.setCell ⟨F,0,none⟩ (.int .i64 p)).setCell ⟨F,1,none⟩ (.int .i64 c)) rfl rfl ?_ ?_
 ·go_simp
 refine hK.out _ _ ?_
 clear hK K
 refine done_ (by kernel_rfl) ?_
 refine ⟨rfl,?_⟩
 show bodyPostS _ _ _ _ _ _ _ _ _
 exact ⟨rfl,_,rfl,_,results_none rfl _ _ _,rfl,rfl,blk_far (blk_far hS3 (p:=⟨F,0,none⟩) (Ne.symm hFS) _) (p:=⟨F,1,none⟩) (Ne.symm hFS) _,blk2 hF3 _ _,fun B b1 b2 => ((hB3 B b1).setCell (p:=⟨F,0,none⟩) b2 _).setCell (p:=⟨F,1,none⟩) b2 _⟩
end Go.Proofs.YtdmngdohlobogaaGreatDoor.Asc

