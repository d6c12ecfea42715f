import Derived.Test.YtojepjkpnponoaaDoorFStim0
import Derived.Test.YtojepjkpnponoaaDoorFStim4
import Derived.Test.YtojepjkpnponoaaDoorFStim5
import Derived.Test.YtojepjkpnponoaaDoorFStim6
import Derived.Test.YtojepjkpnponoaaDoorFStim8
import Derived.Test.YtojepjkpnponoaaDoorFStim9
import Derived.Test.YtojepjkpnponoaaDoorFStim10
import Derived.Test.YtojepjkpnponoaaDoorFGV
import Derived.Test.YtojepjkpnponoaaDoorFGPrint
import Derived.Test.YtojepjkpnponoaaDoorFGRefPrint
import Derived.Test.YtojepjkpnponoaaDoorFPureK
set_option linter.unusedSimpArgs false
namespace Go.Proofs.YtojepjkpnponoaaDoor.Stim
open Go Go.RowKit Go.Proofs.YtojepjkpnponoaaDoorW.PrintWords
set_option linter.unusedVariables false
theorem itoa_len (n : Int) (h0 : 0 ≤ n) (h1 : n < 4294967296) : (Lib.itoa n).length ≤ 20:=by
 unfold Lib.itoa
 rw [if_neg (by omega),Lib.decDigits_length]
 exact Lib.nDigits_le20 _ (by omega)
theorem propsLoop_fits (l : List S83) : ∀ seen,propsLoop seen l = 0 → ∀ p ∈ l,propFits p = true:=by
 induction l with
 |nil => intro seen h p hp;cases hp
 |cons q l ih =>
  intro seen h p hp
  unfold propsLoop at h
  by_cases hc : propFits q = true ∧ seen.any (same83 q) = false
  ·rw [if_pos hc] at h
   rcases List.mem_cons.1 hp with rfl|hp
   ·exact hc.1
   ·exact ih _ h p hp
  ·rw [if_neg hc] at h
   cases h
theorem fits_open {p : S83} (h : propFits p = true) : 0 ≤ p.f0 ∧ p.f0 < 256 ∧ 0 ≤ p.f1 ∧ p.f1 < 16384:=by
 simp only [propFits,Bool.and_eq_true,Bool.or_eq_true,beq_iff_eq,Bool.not_eq_true',decide_eq_false_iff_not] at h
 omega
theorem flat_le {α : Type} (f : α → List UInt8) (m : Nat) : ∀ l : List α,(∀ x ∈ l,(f x).length ≤ m) → (l.flatMap f).length ≤ m * l.length
 |[],_ => by simp
 |x :: l,h => by
  have h1:=h x (.head _)
  have h2:=flat_le f m l (fun y hy => h y (.tail _ hy))
  rw [List.flatMap_cons,List.length_append,List.length_cons,Nat.mul_succ]
  omega
theorem propsBytes_le (l : List S83) (h : ∀ p ∈ l,propFits p = true) : (propsBytes l).length ≤ 22 * l.length:=by
 have:=flat_le (fun x : S83 × Nat => propBytes (x.2 == 0) x.1) 22 l.zipIdx (fun x hx => by
  have hm : x.1 ∈ l:=by
   obtain ⟨a,i⟩:=x
   exact List.fst_mem_of_mem_zipIdx hx
  have hf:=fits_open (h _ hm)
  have hi:=itoa_len x.1.f1 hf.2.2.1 (by omega)
  unfold propBytes
  simp only [List.length_append,List.length_cons]
  split <;> simp <;> omega)
 simpa [propsBytes] using this
theorem rowsBytes_le (l : List (List Bool)) (m : Nat) (h : ∀ r ∈ l,r.length ≤ m) : (rowsBytes l).length ≤ (m + 1) * l.length :=
 flat_le rowBytes (m + 1) l (fun r hr => by rw [rowBytes_length];exact Nat.succ_le_succ (h r hr))
theorem texts_fit (st : Int) (props : List S83) (init : List Bool) (ins : List (List Bool)) (loop la inn : Int) (h : checkSpec st props init ins loop la inn = 0) : textOK st props init ins loop = true:=by
 unfold checkSpec at h
 split at h
 ·rename_i hz
  split at h
  ·cases h
  ·rename_i hs
   split at h
   ·rename_i hp
    have hpl : props.length ≤ 16384 ∧ ∀ p ∈ props,propFits p = true:=by
     unfold propsSpec at hp
     split at hp
     ·cases hp
     ·split at hp
      ·cases hp
      ·exact ⟨by omega,propsLoop_fits props _ hp⟩
    have hit:=itoa_len st (by omega) (by omega)
    have hpb:=propsBytes_le props hpl.2
    have fin : ∀ (hloop : -1 ≤ loop ∧ loop < 4294967296) (hi : init.length ≤ 16384) (hn : ins.length ≤ 512) (hr : ∀ r ∈ ins,r.length ≤ 16384),textOK st props init ins loop = true:=by
     intro hloop hi hn hr
     have hrb:=rowsBytes_le ins 16384 hr
     have hlb : (loopBytes loop).length ≤ 28:=by
      unfold loopBytes
      split
      ·rename_i hl
       have:=itoa_len loop hl hloop.2
       simp
       omega
      ·simp
     have htb : (traceBytes st init ins loop).length ≤ 10000000:=by
      unfold traceBytes
      split
      ·simp only [List.length_append,rowBytes_length]
       omega
      ·simp
     have hw : (witBytes st props init ins loop).length ≤ 1000000000:=by
      simp only [witBytes,headBytes,List.length_append,List.length_cons,List.length_nil]
      omega
     simp only [textOK,printOK,isI64,Bool.and_eq_true,decide_eq_true_eq,List.all_eq_true]
     refine ⟨⟨⟨⟨⟨⟨⟨⟨⟨⟨⟨⟨by omega,by omega⟩,by omega,by omega⟩,fun p hp => ?_⟩,by omega⟩,fun r hr' => by have:=hr r hr';omega⟩,hw⟩,by omega⟩,by omega⟩,by omega⟩,by omega⟩,by omega⟩,fun p hp => ?_⟩
     ·have:=fits_open (hpl.2 p hp)
      simp only [propOK,isI64,Bool.and_eq_true,decide_eq_true_eq]
      omega
     ·have:=fits_open (hpl.2 p hp)
      omega
    by_cases h1 : st = 1
    ·rw [if_pos h1] at h
     split at h
     ·rename_i ht
      simp only [traceOK,Bool.and_eq_true,decide_eq_true_eq,List.all_eq_true] at ht
      obtain ⟨⟨⟨⟨⟨t1,t2⟩,t3⟩,t4⟩,t5⟩,t6⟩:=ht
      exact fin ⟨t4,by omega⟩ (by omega) t3 (fun r hr => by have:=t6 r hr;omega)
     ·cases h
    ·rw [if_neg h1] at h
     split at h
     ·rename_i ht
      refine fin ⟨by omega,by omega⟩ (by omega) (by omega) (fun r hr => ?_)
      have : ins = []:=List.eq_nil_of_length_eq_zero ht.2.1
      rw [this] at hr
      cases hr
     ·cases h
   ·rename_i hp
    exact absurd h hp
 ·cases h
theorem textOK_print {st : Int} {props : List S83} {init : List Bool} {ins : List (List Bool)} {loop : Int} (h : textOK st props init ins loop = true) : printOK st props init ins loop = true:=by
 simp only [textOK,Bool.and_eq_true] at h
 exact h.1.1.1.1
theorem ex_works : trestlelaw12_works.f 100 = some true:=by kernel_rfl
theorem ex_works_up (k : Nat) : trestlelaw12_works.f (100 + k) = some true:=by
 induction k with
 |zero => exact ex_works
 |succ k ih => exact trestlelaw12_works.mono _ _ ih
theorem works_ev : Ev (fun k => trestlelaw12_works.f k) true:=⟨100,fun k hk => by
 obtain ⟨j,rfl⟩ : ∃ j,k = 100 + j:=⟨k - 100,by omega⟩
 exact ex_works_up j⟩
end Go.Proofs.YtojepjkpnponoaaDoor.Stim

