import Derived.Test.YtdmngdohlobogaaGreatDoorYSHCycle
import Derived.Test.YtdmngdohlobogaaGreatDoorYSHSizes
import Derived.Test.YtdmngdohlobogaaGreatDoorYSHSymbols
import Derived.Test.YtdmngdohlobogaaGreatDoorYABodyM
import Derived.Test.YtdmngdohlobogaaGreatDoorYATailW
section
namespace Go.Proofs.YtdmngdohlobogaaGreatDoor.Asc
open Go Go.RowKit Go.Proofs.YtdmngdohlobogaaGreatDoorW.PrintWords Go.Proofs.YtdmngdohlobogaaGreatDoorW.PrintLast Go.Proofs.YtdmngdohlobogaaGreatDoorW.PrintMore
set_option linter.unusedVariables false
set_option linter.unusedSimpArgs false
def idxF (v : Int) : List Int → Nat → Int
 |[],_ => -1
 |x :: xs,i => if v = x then (i : Int) else idxF v xs (i + 1)
set_option maxHeartbeats 4000000 in
set_option maxRecDepth 100000 in
theorem index_calls {A : Option Addr} {cp : Nat} {l : List Int} {w : World} (hC : Kd.C (Kd.int .u8) w A l.length l) (v : Int) (hl : l.length ≤ 1099511627776) :
  Calls Tryz.prog 114 #[.slice A l.length cp,.int .u8 v] w fun e w' => e = .returned (.int .i64 (idxF v l 0)) ∧ w' = w:=by
 obtain ⟨R,hR⟩ : ∃ R,idxF v l 0 = R:=⟨_,rfl⟩
 rw [hR]
 have HC:=A0_.mk hC
 have HLL:=A0_.mk hl
 have HR:=A0_.mk hR
 clear hC hl hR
 go_enter Tryz.func114,Tryz.ntmps114
 go_wp2
 repeat (go_quiet (fail);try go_wp2)
 (try simp only [Act.put,sA_,sB_,sC_])
 go_loopg [8] (l.length + 1) (fun kq v8 w' => ∃ (n : Nat),v8 = .int .i64 n ∧ A0_ (n + kq = l.length + 1) ∧ A0_ (n ≤ l.length) ∧ A0_ (idxF v (l.drop n) n = R) ∧ w' = w)
 case atStart => exact ⟨0,rfl,⟨by omega⟩,⟨Nat.zero_le _⟩,⟨by rw [List.drop_zero];exact HR.out⟩,rfl⟩
 case round =>
  clear HR
  obtain ⟨n,rfl,HK,HNL,HR,rfl⟩:=hrel
  by_cases cn : n < l.length
  ·obtain ⟨k1,rfl⟩ : ∃ k1,gk = k1 + 1:=by
    cases gk with
    |zero => have:=HK.out;omega
    |succ k1 => exact ⟨k1,rfl⟩
   have cnb : decide ((n : Int) < (l.length : Int)) = true:=decide_eq_true (by omega)
   have p0 : (0 ≤ (n : Int)) = True:=eq_true (by omega)
   have p1 : ((n : Int) < (l.length : Int)) = True:=eq_true (by omega)
   have hw1 : IntKind.i64.wrap ((n : Int) + 1) = ((n + 1 : Nat) : Int):=by have:=HLL.out;rw [IntKind.wrap_i64];omega
   obtain ⟨ad,ea,hx⟩:=C_int_get HC.out n cn
   cases ea
   have hr:=HR.out
   rw [List.drop_eq_getElem_cons cn,idxF] at hr
   clear HR
   generalize l[n] = x at hr hx
   by_cases u1 : v = x
   ·rw [if_pos u1] at hr
    subst u1
    subst hr
    go_wp2
    repeat (go_quiet (fail);try go_wp2)
    go_ret
    exact ⟨rfl,rfl⟩
   ·have u1b : (v == x) = false:=beq_eq_false_iff_ne.mpr u1
    rw [if_neg u1] at hr
    have HR:=A0_.mk hr
    clear hr
    go_wp2
    repeat (go_quiet (fail);try go_wp2)
    go_roundg k1
    case measure => omega
    case rel => exact ⟨n + 1,rfl,⟨by have:=HK.out;omega⟩,⟨by omega⟩,HR,rfl⟩
  ·have cnb : decide ((n : Int) < (l.length : Int)) = false:=decide_eq_false (by omega)
   have hr:=HR.out
   rw [List.drop_eq_nil_of_le (by omega),idxF] at hr
   subst hr
   go_wp2
   repeat (go_quiet (fail);try go_wp2)
   go_ret
   exact ⟨rfl,rfl⟩
theorem contains_calls {A : Option Addr} {cp : Nat} {l : List Int} {w : World} (hC : Kd.C (Kd.int .u8) w A l.length l) (v : Int) (hl : l.length ≤ 1099511627776) :
  Calls Tryz.prog 89 #[.slice A l.length cp,.int .u8 v] w fun e w' => e = .returned (.bool (decide (0 ≤ idxF v l 0))) ∧ w' = w:=by
 have IC:=A0_.mk (index_calls (cp:=cp) hC v hl)
 clear hC hl
 generalize idxF v l 0 = R at *
 go_enter Tryz.func89,Tryz.ntmps89
 go_wp2_with (first|((with_reducible refine gate_callee (f:=114) rfl ?_);refine goesL_ (some 7) rfl rfl Tryz.func114 (by kernel_rfl) rfl #[.slice A l.length cp,.int .u8 v] rfl (by (try simp only [List.map_toArray,List.map_cons,List.map_nil]);first|done|rfl) ?_;(with_reducible refine (IC.out).mono ?_);rintro e w2 ⟨rfl,rfl⟩;refine ⟨_,rfl,?_⟩)|go_in)
 repeat (go_quiet (fail);try go_wp2)
 go_ret
 exact ⟨rfl,rfl⟩
end Go.Proofs.YtdmngdohlobogaaGreatDoor.Asc
end
section
namespace Go.Proofs.YtdmngdohlobogaaGreatDoor.Asc
open Go Go.RowKit
set_option linter.unusedVariables false
set_option linter.unusedSimpArgs false
theorem sizes_short {c : S65} (h : sizesF c = 0) : Short c:=by
 unfold sizesF at h
 split at h
 ·cases h
 ·rename_i h0
  split at h
  ·cases h
  ·rename_i h1
   split at h
   ·cases h
   ·rename_i h2
    simp only [sizeList,List.any_cons,List.any_nil,Bool.or_false,Bool.or_eq_true,decide_eq_true_eq] at h1
    have hj : ∀ (l : List (List Int)),∀ r ∈ l,r.length ≤ sumLen l:=by
     intro l
     induction l with
     |nil => intro r hr;cases hr
     |cons a l ih =>
      intro r hr
      simp only [sumLen,List.map_cons,List.sum_cons] at ih ⊢
      rcases List.mem_cons.1 hr with rfl|hr
      ·omega
      ·have:=ih r hr
       omega
    exact ⟨by omega,by omega,by omega,by omega,by omega,by omega,by omega,by omega,by omega,by omega,by omega,by omega,fun r hr => by have:=hj c.f6 r hr;omega⟩
def Gates (n : Nat) (by_ : List S40) : Prop:=∀ m ∈ by_,m.f0 = 3 → 0 ≤ m.f1 ∧ m.f1 < n
theorem define_gates {n : Nat} {mx : Int} {by_ : List S40} {l : Int} {m : S40} (h : Gates n by_) (hm : m.f0 = 3 → 0 ≤ m.f1 ∧ m.f1 < n) : Gates n (defineF mx by_ l m).2:=by
 unfold defineF
 split
 ·exact h
 ·split
  ·exact h
  ·intro x hx
   rcases List.mem_or_eq_of_mem_set hx with hx|rfl
   ·exact h x hx
   ·exact hm
theorem inputs_gates {n : Nat} {mx : Int} : ∀ (l : List Int) (i : Nat) (by_ : List S40),Gates n by_ → Gates n (defInputs mx l i by_).2.2
 |[],i,by_,h => h
 |l :: ls,i,by_,h => by
  rw [defInputs]
  have h1 : Gates n (defineF mx by_ l ⟨1,i⟩).2:=define_gates h (fun e => absurd (show (1 : Int) = 3 from e) (by decide))
  split
  ·exact inputs_gates ls (i + 1) _ h1
  ·exact h1
theorem latches_gates {n : Nat} {mx : Int} : ∀ (l : List S108) (i : Nat) (by_ : List S40),Gates n by_ → Gates n (defLatches mx l i by_).2.2
 |[],i,by_,h => h
 |x :: ls,i,by_,h => by
  rw [defLatches]
  have h1 : Gates n (defineF mx by_ x.f0 ⟨2,i⟩).2:=define_gates h (fun e => absurd (show (2 : Int) = 3 from e) (by decide))
  split
  ·split
   ·exact h1
   ·exact latches_gates ls (i + 1) _ h1
  ·exact h1
theorem ands_gates {n : Nat} {mx : Int} : ∀ (l : List S125) (i : Nat) (by_ : List S40),i + l.length ≤ n → Gates n by_ → Gates n (defAnds mx l i by_).2.2
 |[],i,by_,_,h => h
 |x :: ls,i,by_,hn,h => by
  rw [defAnds]
  have h1 : Gates n (defineF mx by_ x.f0 ⟨3,i⟩).2:=define_gates h (fun _ => ⟨by show (0 : Int) ≤ (i : Int);omega,by show (i : Int) < (n : Int);simp at hn;omega⟩)
  split
  ·exact ands_gates ls (i + 1) _ (by simp at hn;omega) h1
  ·exact h1
theorem defines_gates {c : S65} {by_ : List S40} (h : Gates c.f8.length by_) : Gates c.f8.length (definesF c by_).2.2:=by
 unfold definesF finish1
 have h1:=inputs_gates (mx:=c.f0) c.f1 0 by_ h
 split
 ·unfold finish2
  have h2:=latches_gates (mx:=c.f0) c.f2 0 _ h1
  split
  ·exact ands_gates c.f8 0 _ (by omega) h2
  ·exact h2
 ·exact h1
theorem inputs_len {mx : Int} : ∀ (l : List Int) (i : Nat) (by_ : List S40),(defInputs mx l i by_).2.2.length = by_.length
 |[],i,by_ => rfl
 |l :: ls,i,by_ => by
  rw [defInputs]
  split
  ·rw [inputs_len ls,define_len]
  ·exact define_len _ _ _ _
theorem latches_len {mx : Int} : ∀ (l : List S108) (i : Nat) (by_ : List S40),(defLatches mx l i by_).2.2.length = by_.length
 |[],i,by_ => rfl
 |x :: ls,i,by_ => by
  rw [defLatches]
  split
  ·split
   ·exact define_len _ _ _ _
   ·rw [latches_len ls,define_len]
  ·exact define_len _ _ _ _
theorem ands_len {mx : Int} : ∀ (l : List S125) (i : Nat) (by_ : List S40),(defAnds mx l i by_).2.2.length = by_.length
 |[],i,by_ => rfl
 |x :: ls,i,by_ => by
  rw [defAnds]
  split
  ·rw [ands_len ls,define_len]
  ·exact define_len _ _ _ _
theorem defines_len {c : S65} {by_ : List S40} : (definesF c by_).2.2.length = by_.length:=by
 unfold definesF finish1
 split
 ·unfold finish2
  split
  ·rw [ands_len,latches_len,inputs_len]
  ·rw [latches_len,inputs_len]
 ·exact inputs_len _ _ _
theorem thenU_zero {D E : Int × Int} (h : (thenU D E).2 = 0) : D.2 = 0 ∧ E.2 = 0:=by
 unfold thenU at h
 split at h
 ·rename_i hd
  exact ⟨hd,h⟩
 ·exact absurd h (by assumption)
theorem firstBad_zero {α : Type} {f : α → Int} : ∀ (l : List α) (i : Nat),(firstBad f l i).2 = 0 → ∀ x ∈ l,f x = 0
 |[],_,_ => fun x hx => by cases hx
 |a :: l,i,h => by
  rw [firstBad] at h
  split at h
  ·rename_i h0
   intro x hx
   rcases List.mem_cons.1 hx with rfl|hx
   ·exact h0
   ·exact firstBad_zero l (i + 1) h x hx
  ·rename_i h0
   exact absurd h h0
theorem useF_zero {mx : Int} {by_ : List S40} : ∀ (l : List Int),useF mx by_ l = 0 → ∀ x ∈ l,0 ≤ x ∧ x ≤ 2 * mx + 1
 |[],_ => fun x hx => by cases hx
 |a :: l,h => by
  rw [useF] at h
  split at h
  ·cases h
  ·rename_i h0
   split at h
   ·cases h
   ·intro x hx
    rcases List.mem_cons.1 hx with rfl|hx
    ·omega
    ·exact useF_zero l h x hx
theorem uses_ands {c : S65} {by_ : List S40} (h : (usesF c by_).2 = 0) : ∀ x ∈ c.f8,(0 ≤ x.f1 ∧ x.f1 ≤ 2 * c.f0 + 1) ∧ (0 ≤ x.f2 ∧ x.f2 ≤ 2 * c.f0 + 1):=by
 have h1:=(thenU_zero (thenU_zero (thenU_zero (thenU_zero (thenU_zero (thenU_zero h).2).2).2).2).2).2
 intro x hx
 have h2:=useF_zero _ (firstBad_zero _ _ h1 x hx)
 exact ⟨h2 x.f1 (by simp),h2 x.f2 (by simp)⟩
def byteInts (s : ByteArray) : List Int:=s.data.toList.map fun b => (b.toNat : Int)
def nlF : List ByteArray → Nat → Int
 |[],_ => -1
 |s :: ss,i => if 0 ≤ idxF 10 (byteInts s) 0 then (i : Int) else nlF ss (i + 1)
def lookTail (c : S65) (by9 : List S40) : Int × Int :=
 if 0 ≤ cycleF by9 c.f8 then (cycleF by9 c.f8,34)
 else if 0 ≤ symbolsF c c.f9 0 [] then (symbolsF c c.f9 0 [],35)
 else if 0 ≤ nlF c.f10 0 then (nlF c.f10 0,36) else (0,0)
def by0 (c : S65) : List S40:=List.replicate (c.f0 + 1).toNat z40
def lookF (c : S65) : Int × Int :=
 if sizesF c ≠ 0 then (0,sizesF c)
 else if (definesF c (by0 c)).2.1 ≠ 0 then ((definesF c (by0 c)).1,(definesF c (by0 c)).2.1)
 else if (usesF c (definesF c (by0 c)).2.2).2 ≠ 0 then usesF c (definesF c (by0 c)).2.2
 else lookTail c (definesF c (by0 c)).2.2
end Go.Proofs.YtdmngdohlobogaaGreatDoor.Asc
end
section
namespace Go.Proofs.YtdmngdohlobogaaGreatDoor.Asc
open Go Go.RowKit Go.Proofs.YtdmngdohlobogaaGreatDoorW.PrintWords
set_option linter.unusedVariables false
def readEnd (c : S65) (t : List S59 × List ByteArray × Int × Int) : S65 × Int × Int :=
 if t.2.2.2 ≠ 0 then (x0S,t.2.2.1,t.2.2.2)
 else if (lookF { c with f9:=t.1,f10:=t.2.1 }).2 ≠ 0 then (x0S,0,(lookF { c with f9:=t.1,f10:=t.2.1 }).2)
 else ({ c with f9:=t.1,f10:=t.2.1 },0,0)
theorem index_one_lt : ∀ (l : List UInt8) (c : UInt8),Lib.index l [c] < l.length
 |[],c => by simp [Lib.index]
 |b :: l,c => by
  have ih:=index_one_lt l c
  unfold Lib.index
  split
  ·simp only [List.length_cons];omega
  ·split
   ·simp only [List.length_cons];omega
   ·simp only [List.length_cons];omega
theorem cut_ended {l : ByteArray} {c : UInt8} (h : (cutS l c).2.2 = true) : (cutS l c).1.size + 1 ≤ l.size:=by
 unfold cutS Lib.cut at h ⊢
 split at h
 ·rename_i h0
  rw [if_pos h0]
  show (l.data.toList.take _).toArray.size + 1 ≤ _
  have hi:=Lib.index_le l.data.toList [c]
  have hlt:=index_one_lt l.data.toList c
  rw [data_length] at hlt
  rw [List.size_toArray,List.length_take,data_length]
  omega
 ·cases h
structure HeadOk (s : ByteArray) (k : List Int) (e : Int) : Prop where
 size : s.size ≤ 262144
 len : k.length = 9
 all_ : ∀ i : Nat,0 ≤ k.getD i 0 ∧ k.getD i 0 ≤ 16384
 place : 0 ≤ e ∧ e ≤ s.size
theorem head_ok {s word : ByteArray} {k : List Int} {e : Int} (h : headF s = (word,k,e,0)) : HeadOk s k e:=by
 unfold headF at h
 split at h
 ·injection h with _ h;injection h with _ h;injection h with _ h;cases h
 ·rename_i hs
  unfold headOf at h
  split at h
  ·injection h with _ h;injection h with _ h;injection h with _ h;cases h
  ·rename_i he
   split at h
   ·injection h with _ h;injection h with _ h;injection h with _ h;cases h
   ·split at h
    ·injection h with _ h;injection h with _ h;injection h with _ h;cases h
    ·split at h
     ·injection h with _ h;injection h with _ h;injection h with _ h;cases h
     ·split at h
      ·injection h with _ h;injection h with _ h;injection h with _ h;cases h
      ·rename_i h9
       split at h
       ·injection h with _ h;injection h with _ h;injection h with _ h;cases h
       ·rename_i h0
        split at h
        ·injection h with _ h;injection h with _ h;injection h with _ h;cases h
        ·split at h
         ·injection h with _ h;injection h with _ h;injection h with _ h;cases h
         ·rename_i hany
          injection h with _ h
          injection h with hk h
          injection h with hl h
          subst hk
          subst hl
          have hz:=cut_ended (l:=s) (c:=10) (by cases hb : (cutS s 10).2.2 with|true => rfl|false => exact absurd hb he)
          have hlen:=nine_len (ns:=(numsR (cutS (cutS s 10).1 32).2.1).1) (by omega)
          have hrg:=nine_range (ns:=(numsR (cutS (cutS s 10).1 32).2.1).1) (numsR_range (s:=(cutS (cutS s 10).1 32).2.1) (b:=(numsR (cutS (cutS s 10).1 32).2.1).2) rfl)
          refine ⟨by omega,hlen,fun i => ?_,by omega,by omega⟩
          generalize nine (numsR (cutS (cutS s 10).1 32).2.1).1 = kk at *
          rcases Nat.lt_or_ge i 9 with hi|hi
          ·have hil : i < kk.length:=by omega
           have e1 : kk.getD i 0 = kk[i]:=by simp [List.getD_eq_getElem?_getD,List.getElem?_eq_getElem hil]
           have hm:=hrg kk[i] (List.getElem_mem hil)
           rw [e1]
           refine ⟨hm.1,?_⟩
           cases i with
           |zero => rw [e1] at h0;omega
           |succ i =>
            by_cases hb : 16384 < kk[i + 1]
            ·exfalso
             apply hany
             rw [List.any_eq_true]
             refine ⟨kk[i + 1],?_,by simpa using hb⟩
             rw [List.mem_iff_getElem]
             exact ⟨i,by simp;omega,by simp⟩
            ·omega
          ·rw [List.getD_eq_getElem?_getD,List.getElem?_eq_none (by omega)]
           exact ⟨by decide,by decide⟩
end Go.Proofs.YtdmngdohlobogaaGreatDoor.Asc
end
section
namespace Go.Proofs.YtdmngdohlobogaaGreatDoor.Asc
open Go Go.RowKit
set_option linter.unusedVariables false
theorem tailGo_size {s : ByteArray} : ∀ (k : Nat) {p : Nat} {n : Bool} {a : List S59} {b : List ByteArray},p ≤ s.size → tailGo s k p n = .ok (a,b) → ∀ x ∈ b,x.size ≤ s.size
 |0,p,n,a,b,hp,h => by rw [tailGo] at h;cases h
 |k + 1,p,n,a,b,hp,h => by
  rw [tailGo] at h
  split at h
  ·injection h with h
   injection h with _ h
   subst h
   intro x hx
   cases hx
  ·split at h
   ·cases h
   ·rename_i l q hl
    have hs:=lineF_size hp hl
    split at h
    ·cases h2 : tailGo s k q true with
     |error e => rw [h2] at h;cases h
     |ok y =>
      obtain ⟨a2,b2⟩:=y
      rw [h2] at h
      simp only [consC,Except.ok.injEq,Prod.mk.injEq] at h
      intro x hx
      rw [← h.2] at hx
      rcases List.mem_cons.1 hx with rfl|hx
      ·exact hs.1
      ·exact tailGo_size k hs.2.2.1 h2 x hx
    ·split at h
     ·exact tailGo_size k hs.2.2.1 h
     ·split at h
      ·cases h
      ·cases h2 : tailGo s k q false with
       |error e => rw [h2] at h;cases h
       |ok y =>
        obtain ⟨a2,b2⟩:=y
        rw [h2] at h
        simp only [consS,Except.ok.injEq,Prod.mk.injEq] at h
        intro x hx
        rw [← h.2] at hx
        exact tailGo_size k hs.2.2.1 h2 x hx
theorem tailF_size (s : ByteArray) (p : Int) (hs : s.size ≤ 262144) : ∀ x ∈ (tailF s p).2.1,x.size ≤ 262144:=by
 unfold tailF
 rw [if_neg (by omega)]
 split
 ·intro x hx;cases hx
 ·rename_i hp
  split
  ·intro x hx;cases hx
  ·rename_i a b h
   intro x hx
   have:=tailGo_size (s.size + 1) (p:=p.toNat) (by omega) h x hx
   omega
end Go.Proofs.YtdmngdohlobogaaGreatDoor.Asc
end
