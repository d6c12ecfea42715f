import Derived.Test.YtojepjkpnponoaaDoorFStim0
import Derived.Test.YtojepjkpnponoaaDoorFGV
import Derived.Test.YtojepjkpnponoaaDoorFMk
import Derived.Laws.RangeString
import Derived.Laws.RangeAny
import Derived.RangeFuncCalls
import Derived.MapKept
import Derived.Test.YtojepjkpnponoaaDoorFFrags
set_option linter.unusedSimpArgs false
namespace Go.Proofs.YtojepjkpnponoaaDoor.Stim
open Go Go.RowKit Go.Proofs.YtojepjkpnponoaaDoorW.PrintWords Go.Proofs.YtojepjkpnponoaaDoorW.PrintLast Go.Proofs.YtojepjkpnponoaaDoorW.PrintMore
set_option linter.unusedVariables false
def truthOf (c : UInt8) : Option Bool:=if c = 48 ∨ c = 49 ∨ c = 120 then some (c == 49) else none
def rowOf : List UInt8 → Option (List Bool)
 |[] => some []
 |c :: l => (truthOf c).bind fun b => (rowOf l).bind fun bs => some (b :: bs)
theorem rowOf_snoc (l : List UInt8) (c : UInt8) : rowOf (l ++ [c]) = (rowOf l).bind fun bs => (truthOf c).bind fun b => some (bs ++ [b]):=by
 induction l with
 |nil => cases h : truthOf c <;> simp [rowOf,h]
 |cons d l ih =>
  simp only [List.cons_append,rowOf,ih]
  cases truthOf d <;> cases rowOf l <;> cases truthOf c <;> simp
theorem rowOf_none (l m : List UInt8) (c : UInt8) (h : truthOf c = none) : rowOf (l ++ c :: m) = none:=by
 induction l with
 |nil => simp [rowOf,h]
 |cons d l ih => simp [rowOf,ih]
theorem rowOf_len : ∀ (l : List UInt8) (bs : List Bool),rowOf l = some bs → bs.length = l.length
 |[],bs,h => by
  simp [rowOf] at h
  subst h
  rfl
 |x :: l,bs,h => by
  simp only [rowOf,Option.bind_eq_some_iff] at h
  obtain ⟨p,_,qs,hq,h⟩:=h
  injection h with h
  subst h
  simp [rowOf_len l qs hq]
def stim_row.f (a0 : ByteArray) (a1 : Int) : Option (List Bool × Bool) :=
 if a0.size < 4294967296 then (if (a0.size : Int) = a1 then match rowOf a0.data.toList with
  |none => some ([],false)
  |some l => some (l,true)
 else some ([],false)) else none
theorem next_more {P : Program} (W : World) (g : Nat) (s : ByteArray) (pos : Nat) (hg : W.heap[g]? = some (.stringIter s pos)) (h : pos < s.size) (ty : TypeId) :
  (Instr.next (.pointer (some ⟨g,0,none⟩)) true ty).run P W = .ok (.tuple #[.bool true,.int .i64 pos,.int .i32 ((Utf8.decode s pos).1 : Nat)]) (W.putObj g (.stringIter s (pos + (Utf8.decode s pos).2))):=by
 simp [Instr.next,getObj,setObj,Sem.run_bind,Sem.run,hg,Result.andThen,h,World.putObj,goInt]
theorem next_over {P : Program} (W : World) (g : Nat) (s : ByteArray) (pos : Nat) (hg : W.heap[g]? = some (.stringIter s pos)) (h : ¬ pos < s.size) (ty : TypeId) :
  (Instr.next (.pointer (some ⟨g,0,none⟩)) true ty).run P W = .ok (.tuple #[.bool false]) W:=by
 simp [Instr.next,getObj,Sem.run,hg,h]
set_option maxHeartbeats 4000000 in
set_option maxRecDepth 100000 in
theorem stim_row.calls (a0 : ByteArray) (a1 : Int) (r1 : List Bool) (r2 : Bool) (w : World) (hG : GV w) (h : stim_row.f a0 a1 = some (r1,r2)) :
  Calls Tryd.prog 95 #[.string a0,.int .i64 a1] w fun e w' => ∃ v0_ : Value,e = .returned (.tuple #[v0_,.bool r2]) ∧ Kd.R Kd.bool 4 w' w.heap.size (fun _ => True) v0_ r1 ∧ Below w.heap.size w w':=by
 clear hG
 unfold stim_row.f at h
 split at h
 ·rename_i hs
  by_cases c2 : (a0.size : Int) = a1
  ·rw [if_pos c2] at h
   subst c2
   have H:=Lib.hid h
   have HS:=Lib.hid hs
   clear h hs
   have HB:=A0_.mk (Below.refl w.heap.size w)
   go_enter Tryd.func95,Tryd.ntmps95
   go_upto_region 4 with (first|((with_reducible refine gate_dst (N:=14) rfl ?_);refine mkcap Kd.bool (w0:=w) w.heap.size 4 rfl 23 _ _ rfl a0.size rfl rfl Tryd.underlying23 (.bool false) 1 info4 (by have:=HS.out;omega) (by have:=HS.out;simp only [maxLen];omega) (ok:=fun _ => True) trivial HB.out (Nat.le_refl _) ?_;intro v1 w1 hr hb hb1))
   go_wp2
   repeat (go_quiet (fail);try go_wp2)
   (try simp only [Act.put,List.setIfInBounds_toArray,List.set_cons_zero,List.set_cons_succ])
   go_loopg [6] (a0.size + 1) (fun kq v w' => ∃ (pos : Nat) (xs : List Bool),A0_ (pos + kq = a0.size + 1) ∧ A0_ (pos ≤ a0.size) ∧ A0_ (rowOf (a0.data.toList.take pos) = some xs) ∧ A0_ (w'.heap[w1.heap.size]? = some (.stringIter a0 pos)) ∧ A0_ (Kd.R Kd.bool 4 w' w.heap.size (fun k => k ≠ w1.heap.size) v xs) ∧ A0_ (Below w.heap.size w w'))
   case atStart => exact ⟨0,[],⟨by omega⟩,⟨by omega⟩,⟨rfl⟩,⟨World.alloc_heap_new _ _⟩,⟨Kd.R_alloc (Kd.R_mono (Kd.R_bound hr) (fun k hk => by have:=hk.2.2.1;omega)) _⟩,⟨eA_ hb _⟩⟩
   case round =>
    obtain ⟨pos,xs,HK,HN,HP,HM,HR,HB⟩:=hrel
    have HBS:=A0_.mk (below_size hb)
    clear hr hb hb1
    cases gk with
    |zero =>
     have h1:=HK.out
     have h2:=HN.out
     omega
    |succ k1 =>
     by_cases c4 : pos < a0.size
     ·have hnx:=fun ty => next_more (P:=Tryd.prog) wr w1.heap.size a0 pos HM.out c4 ty
      have hget : a0.data.toList[pos]? = some (a0[pos]'c4):=by simp [ByteArray.getElem_eq_getElem_data,show pos < a0.data.size from c4]
      have hsplit : a0.data.toList = a0.data.toList.take pos ++ (a0[pos]'c4) :: a0.data.toList.drop (pos + 1):=by
       conv => lhs;rw [← List.take_append_drop pos a0.data.toList]
       rw [List.drop_eq_getElem?_toList_append,hget];rfl
      have htake : a0.data.toList.take (pos + 1) = a0.data.toList.take pos ++ [a0[pos]'c4]:=by rw [List.take_add_one,hget];rfl
      have HSP:=A0_.mk hsplit
      have HTK:=A0_.mk htake
      clear hget hsplit htake
      have hglt : w1.heap.size < wr.heap.size:=(Array.getElem?_eq_some_iff.1 HM.out).1
      have HGLT:=A0_.mk hglt
      clear hglt
      by_cases hb128 : (a0[pos]'c4).toNat < 128
      ·rw [decode_ascii a0 pos c4 hb128] at hnx
       dsimp only at hnx
       have hM2 : (wr.putObj w1.heap.size (.stringIter a0 (pos + 1))).heap[w1.heap.size]? = some (.stringIter a0 (pos + 1)):=(MapKept.heap_set HM.out).1
       have hR2 : Kd.R Kd.bool 4 (wr.putObj w1.heap.size (.stringIter a0 (pos + 1))) w.heap.size (fun k => k ≠ w1.heap.size) u6 xs:=Kd.R_grown HR.out (grownBy_putObj' _ _ _) (fun k hk e => by injection e with e;exact hk e)
       have hB2 : Below w.heap.size w (wr.putObj w1.heap.size (.stringIter a0 (pos + 1))):=HB.out.grown (grownBy_putObj' _ _ _) HB.out.size (fun k e => by injection e with e;have:=HBS.out;omega)
       generalize wr.putObj w1.heap.size (.stringIter a0 (pos + 1)) = w2 at hnx hM2 hR2 hB2
       have HM2:=A0_.mk hM2
       have HR2:=A0_.mk hR2
       have HB2:=A0_.mk hB2
       clear hM2 hR2 hB2 HM HR HB
       have hlt2 : w1.heap.size < w2.heap.size:=(Array.getElem?_eq_some_iff.1 HM2.out).1
       have HLT:=A0_.mk hlt2
       clear hlt2
       generalize a0[pos]'c4 = b at *
       cases ht : truthOf b with
       |none =>
        have HT:=A0_.mk ht
        have hn1 : ¬ (b = 48 ∨ b = 49 ∨ b = 120):=by
         intro hc
         unfold truthOf at ht
         rw [if_pos hc] at ht
         cases ht
        have m1 : ((b.toNat : Int) != 48) = true:=bne_iff_ne.mpr (fun e => hn1 (.inl (UInt8.toNat_inj.1 (by show b.toNat = 48;omega))))
        have m2 : ((b.toNat : Int) != 49) = true:=bne_iff_ne.mpr (fun e => hn1 (.inr (.inl (UInt8.toNat_inj.1 (by show b.toNat = 49;omega)))))
        have m3 : ((b.toNat : Int) != 120) = true:=bne_iff_ne.mpr (fun e => hn1 (.inr (.inr (UInt8.toNat_inj.1 (by show b.toNat = 120;omega)))))
        have m1' : ((b.toNat : Int) == 48) = false:=by simpa using m1
        have m2' : ((b.toNat : Int) == 49) = false:=by simpa using m2
        have m3' : ((b.toNat : Int) == 120) = false:=by simpa using m3
        clear hn1 ht
        have hh:=H.out
        rw [HSP.out,rowOf_none _ _ _ HT.out] at hh
        injection hh with hh
        injection hh with e1 e2
        subst e1
        subst e2
        clear H HSP HTK
        go_wp2
        repeat (go_quiet (fail);try go_wp2)
        go_ret2
        exact ⟨_,rfl,Kd.R_nil _ _ _ _ _,HB2.out⟩
       |some t =>
        have hc : b = 48 ∨ b = 49 ∨ b = 120:=by
         unfold truthOf at ht
         split at ht
         ·assumption
         ·cases ht
        rcases hc with rfl|rfl|rfl
        ·clear ht
         simp only [show (48 : UInt8).toNat = 48 from rfl,show (49 : UInt8).toNat = 49 from rfl,show (120 : UInt8).toNat = 120 from rfl] at hnx
         have hp2 : rowOf (a0.data.toList.take (pos + 1)) = some (xs ++ [false]):=by rw [HTK.out,rowOf_snoc,HP.out];rfl
         have HP2:=A0_.mk hp2
         have hxl : xs.length < 4294967296:=by
          have h1:=rowOf_len _ _ HP.out
          have h2:=HS.out
          rw [List.length_take,size_list] at h1
          omega
         have HXL:=A0_.mk hxl
         clear hp2 hxl HSP HTK HP
         have hnx2:=hnx
         go_wp2_with (first|(at_builtin;refine Kd.R_append Kd.bool (w0:=w) w.heap.size rfl (.tmp 30) (.tmp 33) 23 4 (.bool false) 1 rfl Tryd.underlying23 info4 rfl (by decide) (by decide) u6 xs false [.bool false] (fun k => k ≠ w1.heap.size) (fun _ => False) rfl rfl rfl (fun _ h => h.elim) (fun k hk => by have:=HLT.out;omega) HR2.out HB2.out (below_size HB2.out) (by have:=HXL.out;omega) ?_;intro v3 w3 hr3 hb3 hg3 hat3)|go_in)
         have hM3 : w3.heap[w1.heap.size]? = some (.stringIter a0 (pos + 1)):=(hg3.block _ HLT.out (fun e => HR2.out.1 _ e.symm rfl)).trans HM2.out
         have HM3:=A0_.mk hM3
         have HR3:=A0_.mk hr3
         have HB3:=A0_.mk hb3
         clear hM3 hr3 hb3 hg3 hat3 hnx hnx2
         go_roundg k1
         case measure => omega
         case rel => exact ⟨pos + 1,_,⟨by have:=HK.out;omega⟩,⟨by omega⟩,HP2,HM3,HR3,HB3⟩
        ·clear ht
         simp only [show (48 : UInt8).toNat = 48 from rfl,show (49 : UInt8).toNat = 49 from rfl,show (120 : UInt8).toNat = 120 from rfl] at hnx
         have hp2 : rowOf (a0.data.toList.take (pos + 1)) = some (xs ++ [true]):=by rw [HTK.out,rowOf_snoc,HP.out];rfl
         have HP2:=A0_.mk hp2
         have hxl : xs.length < 4294967296:=by
          have h1:=rowOf_len _ _ HP.out
          have h2:=HS.out
          rw [List.length_take,size_list] at h1
          omega
         have HXL:=A0_.mk hxl
         clear hp2 hxl HSP HTK HP
         have hnx2:=hnx
         go_wp2_with (first|(at_builtin;refine Kd.R_append Kd.bool (w0:=w) w.heap.size rfl (.tmp 30) (.tmp 33) 23 4 (.bool false) 1 rfl Tryd.underlying23 info4 rfl (by decide) (by decide) u6 xs true [.bool true] (fun k => k ≠ w1.heap.size) (fun _ => False) rfl rfl rfl (fun _ h => h.elim) (fun k hk => by have:=HLT.out;omega) HR2.out HB2.out (below_size HB2.out) (by have:=HXL.out;omega) ?_;intro v3 w3 hr3 hb3 hg3 hat3)|go_in)
         have hM3 : w3.heap[w1.heap.size]? = some (.stringIter a0 (pos + 1)):=(hg3.block _ HLT.out (fun e => HR2.out.1 _ e.symm rfl)).trans HM2.out
         have HM3:=A0_.mk hM3
         have HR3:=A0_.mk hr3
         have HB3:=A0_.mk hb3
         clear hM3 hr3 hb3 hg3 hat3 hnx hnx2
         go_roundg k1
         case measure => omega
         case rel => exact ⟨pos + 1,_,⟨by have:=HK.out;omega⟩,⟨by omega⟩,HP2,HM3,HR3,HB3⟩
        ·clear ht
         simp only [show (48 : UInt8).toNat = 48 from rfl,show (49 : UInt8).toNat = 49 from rfl,show (120 : UInt8).toNat = 120 from rfl] at hnx
         have hp2 : rowOf (a0.data.toList.take (pos + 1)) = some (xs ++ [false]):=by rw [HTK.out,rowOf_snoc,HP.out];rfl
         have HP2:=A0_.mk hp2
         have hxl : xs.length < 4294967296:=by
          have h1:=rowOf_len _ _ HP.out
          have h2:=HS.out
          rw [List.length_take,size_list] at h1
          omega
         have HXL:=A0_.mk hxl
         clear hp2 hxl HSP HTK HP
         have hnx2:=hnx
         go_wp2_with (first|(at_builtin;refine Kd.R_append Kd.bool (w0:=w) w.heap.size rfl (.tmp 30) (.tmp 33) 23 4 (.bool false) 1 rfl Tryd.underlying23 info4 rfl (by decide) (by decide) u6 xs false [.bool false] (fun k => k ≠ w1.heap.size) (fun _ => False) rfl rfl rfl (fun _ h => h.elim) (fun k hk => by have:=HLT.out;omega) HR2.out HB2.out (below_size HB2.out) (by have:=HXL.out;omega) ?_;intro v3 w3 hr3 hb3 hg3 hat3)|go_in)
         have hM3 : w3.heap[w1.heap.size]? = some (.stringIter a0 (pos + 1)):=(hg3.block _ HLT.out (fun e => HR2.out.1 _ e.symm rfl)).trans HM2.out
         have HM3:=A0_.mk hM3
         have HR3:=A0_.mk hr3
         have HB3:=A0_.mk hb3
         clear hM3 hr3 hb3 hg3 hat3 hnx hnx2
         go_roundg k1
         case measure => omega
         case rel => exact ⟨pos + 1,_,⟨by have:=HK.out;omega⟩,⟨by omega⟩,HP2,HM3,HR3,HB3⟩
      ·have hc:=(decode_high a0 pos c4 (by omega)).1
       generalize (Utf8.decode a0 pos).2 = wd at hnx
       generalize (Utf8.decode a0 pos).1 = cd at hnx hc
       have hM2 : (wr.putObj w1.heap.size (.stringIter a0 (pos + wd))).heap[w1.heap.size]? = some (.stringIter a0 (pos + wd)):=(MapKept.heap_set HM.out).1
       have hR2 : Kd.R Kd.bool 4 (wr.putObj w1.heap.size (.stringIter a0 (pos + wd))) w.heap.size (fun k => k ≠ w1.heap.size) u6 xs:=Kd.R_grown HR.out (grownBy_putObj' _ _ _) (fun k hk e => by injection e with e;exact hk e)
       have hB2 : Below w.heap.size w (wr.putObj w1.heap.size (.stringIter a0 (pos + wd))):=HB.out.grown (grownBy_putObj' _ _ _) HB.out.size (fun k e => by injection e with e;have:=HBS.out;omega)
       generalize wr.putObj w1.heap.size (.stringIter a0 (pos + wd)) = w2 at hnx hM2 hR2 hB2
       have HM2:=A0_.mk hM2
       have HR2:=A0_.mk hR2
       have HB2:=A0_.mk hB2
       clear hM2 hR2 hB2 HM HR HB
       have ht : truthOf (a0[pos]'c4) = none:=by
        unfold truthOf
        rw [if_neg]
        rintro (e|e|e) <;> (rw [e] at hb128;exact hb128 (by decide))
       have HT:=A0_.mk ht
       clear ht
       have m1 : ((cd : Int) != 48) = true:=bne_iff_ne.mpr (by omega)
       have m2 : ((cd : Int) != 49) = true:=bne_iff_ne.mpr (by omega)
       have m3 : ((cd : Int) != 120) = true:=bne_iff_ne.mpr (by omega)
       have m1' : ((cd : Int) == 48) = false:=by simpa using m1
       have m2' : ((cd : Int) == 49) = false:=by simpa using m2
       have m3' : ((cd : Int) == 120) = false:=by simpa using m3
       have m1n : ¬ ((cd : Int) = 48):=by omega
       have m2n : ¬ ((cd : Int) = 49):=by omega
       have m3n : ¬ ((cd : Int) = 120):=by omega
       have m1k : ¬ (cd = 48):=by omega
       have m2k : ¬ (cd = 49):=by omega
       have m3k : ¬ (cd = 120):=by omega
       have hh:=H.out
       rw [HSP.out,rowOf_none _ _ _ HT.out] at hh
       injection hh with hh
       injection hh with e1 e2
       subst e1
       subst e2
       clear H HSP HTK
       go_wp2
       repeat (go_quiet (fail);try go_wp2)
       go_ret2
       exact ⟨_,rfl,Kd.R_nil _ _ _ _ _,HB2.out⟩
     ·have hnx:=fun ty => next_over (P:=Tryd.prog) wr w1.heap.size a0 pos HM.out c4 ty
      go_wp2
      repeat (go_quiet (fail);try go_wp2)
      go_ret2
      have hh:=H.out
      have hp:=HP.out
      rw [List.take_of_length_le (by have:=HN.out;rw [size_list];omega)] at hp
      rw [hp] at hh
      injection hh with hh
      injection hh with e1 e2
      subst e1
      subst e2
      exact ⟨_,rfl,Kd.R_mono HR.out (fun _ _ => trivial),HB.out⟩
  ·rw [if_neg c2] at h
   injection h with h
   injection h with e1 e2
   subst e1
   subst e2
   have c2b0 : ((a0.size : Int) == a1) = false:=beq_eq_false_iff_ne.mpr c2
   have c2b1 : ((a0.size : Int) != a1) = true:=bne_iff_ne.mpr c2
   go_enter Tryd.func95,Tryd.ntmps95
   go_wp2
   repeat (go_quiet (fail);try go_wp2)
   go_ret2
   exact ⟨_,rfl,Kd.R_nil _ _ _ _ _,Below.refl _ _⟩
 ·cases h
end Go.Proofs.YtojepjkpnponoaaDoor.Stim

