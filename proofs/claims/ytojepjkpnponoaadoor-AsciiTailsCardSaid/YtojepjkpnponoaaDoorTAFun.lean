import Derived.Test.YtojepjkpnponoaaDoorTANumber
import Derived.Test.YtojepjkpnponoaaDoorTFrags
set_option linter.unusedSimpArgs false
namespace Go.Proofs.YtojepjkpnponoaaDoor.Asc
open Go Go.RowKit Go.Proofs.YtojepjkpnponoaaDoorW.PrintWords
open Go.Proofs.YtojepjkpnponoaaDoor.Stim (fragsB)
set_option linter.unusedVariables false
def numsA : List ByteArray → Option (List Int)
  | [] => some []
  | x :: l => if (numA x).2 = true then (numsA l).map ((numA x).1 :: ·) else none
theorem numsA_snoc (l : List ByteArray) (x : ByteArray) : numsA (l ++ [x]) = (numsA l).bind fun ns => if (numA x).2 = true then some (ns ++ [(numA x).1]) else none:=by
  induction l with
  | nil => cases h : (numA x).2 <;> simp [numsA,h]
  | cons y l ih =>
    simp only [List.cons_append,numsA,ih]
    cases (numA y).2 <;> cases numsA l <;> cases (numA x).2 <;> simp
theorem numsA_len : ∀ (l : List ByteArray) (ns : List Int),numsA l = some ns → ns.length = l.length
  | [],ns,h => by
    simp [numsA] at h
    subst h
    rfl
  | x :: l,ns,h => by
    simp only [numsA] at h
    split at h
    · obtain ⟨qs,hq,rfl⟩:=Option.map_eq_some_iff.1 h
      simp [numsA_len l qs hq]
    · cases h
theorem numsA_prefix {l m : List ByteArray} (h : numsA l = none) (hp : l <+: m) : numsA m = none:=by
  obtain ⟨k,rfl⟩:=hp
  induction l with
  | nil => simp [numsA] at h
  | cons x l ih =>
    simp only [List.cons_append,numsA] at h ⊢
    split at h
    · rename_i hx
      rw [if_pos hx,ih (by simpa using h)]
      rfl
    · rename_i hx
      rw [if_neg hx]
def numbersF (l : ByteArray) : Option (List Int):=numsA (fragsB l)
def lineF (s : ByteArray) (p : Nat) : Option (ByteArray × Nat) :=
  if Lib.indexByte (s.extract p s.size).data.toList 10 < 0 then none
  else some (s.extract p (p + (Lib.indexByte (s.extract p s.size).data.toList 10).toNat),p + (Lib.indexByte (s.extract p s.size).data.toList 10).toNat + 1)
def rowF (s : ByteArray) (p least most : Nat) : Option (List Int × Nat) :=
  (lineF s p).bind fun q => (numbersF q.1).bind fun ns => if ns.length < least ∨ most < ns.length then none else some (ns,q.2)
def listF (s : ByteArray) : Nat → Nat → Except Nat (List Int × Nat)
  | 0,p => .ok ([],p)
  | n + 1,p => match rowF s p 1 1 with
    | none => .error p
    | some (x,q) => match listF s n q with
      | .error e => .error e
      | .ok (l,r) => .ok (x.getD 0 0 :: l,r)
def latchOf (x : List Int) : S108:=⟨x.getD 0 0,x.getD 1 0,x.getD 2 0⟩
def latchesF (s : ByteArray) : Nat → Nat → Except Nat (List S108 × Nat)
  | 0,p => .ok ([],p)
  | n + 1,p => match rowF s p 2 3 with
    | none => .error p
    | some (x,q) => match latchesF s n q with
      | .error e => .error e
      | .ok (l,r) => .ok (latchOf x :: l,r)
def andOf (x : List Int) : S125:=⟨x.getD 0 0,x.getD 1 0,x.getD 2 0⟩
def andsF (s : ByteArray) : Nat → Nat → Except Nat (List S125 × Nat)
  | 0,p => .ok ([],p)
  | n + 1,p => match rowF s p 3 3 with
    | none => .error p
    | some (x,q) => match andsF s n q with
      | .error e => .error e
      | .ok (l,r) => .ok (andOf x :: l,r)
def sizesF' (s : ByteArray) : Nat → Nat → Except Nat (List Int × Nat)
  | 0,p => .ok ([],p)
  | n + 1,p => match rowF s p 1 1 with
    | none => .error p
    | some (x,q) => if 16384 < x.getD 0 0 then .error p else match sizesF' s n q with
      | .error e => .error e
      | .ok (l,r) => .ok (x.getD 0 0 :: l,r)
def justF (s : ByteArray) : List Int → Nat → Except Nat (List (List Int) × Nat)
  | [],p => .ok ([],p)
  | k :: ks,p => match listF s k.toNat p with
    | .error e => .error e
    | .ok (x,q) => match justF s ks q with
      | .error e => .error e
      | .ok (l,r) => .ok (x :: l,r)
end Go.Proofs.YtojepjkpnponoaaDoor.Asc

