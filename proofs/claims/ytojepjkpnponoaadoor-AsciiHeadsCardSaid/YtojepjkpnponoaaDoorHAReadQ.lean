import Derived.Test.YtojepjkpnponoaaDoorHM32
set_option linter.unusedSimpArgs false
namespace Go.Proofs.YtojepjkpnponoaaDoor.Asc
open Go Go.RowKit
set_option linter.unusedVariables false
theorem listF_len {s : ByteArray} : ∀ (n : Nat) {p q : Nat} {l : List Int},listF s n p = .ok (l,q) → l.length = n
  | 0,p,q,l,h => by
    rw [listF] at h
    injection h with h
    injection h with h _
    subst h
    rfl
  | n + 1,p,q,l,h => by
    cases hr : rowF s p 1 1 with
    | none => rw [listF,hr] at h;cases h
    | some xq =>
      obtain ⟨x,q1⟩:=xq
      rw [listF_step hr] at h
      cases h2 : listF s n q1 with
      | error e => rw [h2] at h;cases h
      | ok y =>
        obtain ⟨l2,q2⟩:=y
        rw [h2] at h
        simp only [appOk,Except.ok.injEq,Prod.mk.injEq] at h
        have:=listF_len n h2
        rw [← h.1]
        simp [this]
theorem sizesF_range {s : ByteArray} : ∀ (n : Nat) {p q : Nat} {l : List Int},sizesF' s n p = .ok (l,q) → ∀ y ∈ l,0 ≤ y ∧ y ≤ 16384
  | 0,p,q,l,h => by
    rw [sizesF'] at h
    injection h with h
    injection h with h _
    subst h
    intro y hy
    cases hy
  | n + 1,p,q,l,h => by
    cases hr : rowF s p 1 1 with
    | none => rw [sizesF',hr] at h;cases h
    | some xq =>
      obtain ⟨x,q1⟩:=xq
      by_cases hx : 16384 < x.getD 0 0
      · rw [sizesF',hr] at h
        dsimp only at h
        rw [if_pos hx] at h
        cases h
      · rw [sizesF_step hr hx] at h
        cases h2 : sizesF' s n q1 with
        | error e => rw [h2] at h;cases h
        | ok y =>
          obtain ⟨l2,q2⟩:=y
          rw [h2] at h
          simp only [appOk,Except.ok.injEq,Prod.mk.injEq] at h
          have ih:=sizesF_range n h2
          have hl:=rowF_len hr
          have hrg:=rowF_range hr
          intro z hz
          rw [← h.1] at hz
          rcases List.mem_append.1 hz with hz|hz
          · rw [List.mem_singleton.1 hz]
            obtain ⟨x0,rfl⟩ : ∃ x0,x = [x0]:=List.length_eq_one_iff.1 (by omega)
            have:=hrg x0 (by simp)
            have e : ([x0] : List Int).getD 0 0 = x0:=rfl
            rw [e] at hx ⊢
            omega
          · exact ih z hz
theorem justF_len {s : ByteArray} : ∀ (z : List Int) {p q : Nat} {j : List (List Int)},justF s z p = .ok (j,q) → (∀ y ∈ z,0 ≤ y ∧ y ≤ 16384) → ∀ r ∈ j,r.length ≤ 16384
  | [],p,q,j,h,_ => by
    rw [justF] at h
    injection h with h
    injection h with h _
    subst h
    intro y hy
    cases hy
  | k :: z,p,q,j,h,hz => by
    cases hr : listF s k.toNat p with
    | error e => rw [justF,hr] at h;cases h
    | ok xq =>
      obtain ⟨x,q1⟩:=xq
      rw [justF_step hr] at h
      cases h2 : justF s z q1 with
      | error e => rw [h2] at h;cases h
      | ok y =>
        obtain ⟨l2,q2⟩:=y
        rw [h2] at h
        simp only [appOk,Except.ok.injEq,Prod.mk.injEq] at h
        have ih:=justF_len z h2 (fun y hy => hz y (List.mem_cons_of_mem _ hy))
        have hk:=hz k List.mem_cons_self
        have hl:=listF_len _ hr
        intro r hrr
        rw [← h.1] at hrr
        rcases List.mem_append.1 hrr with hrr|hrr
        · rw [List.mem_singleton.1 hrr]
          omega
        · exact ih r hrr
theorem bodyN_just {s : ByteArray} {m0 m1 m2 m3 m4 m5 m6 m7 m8 p q : Nat} {c : S65} (h : bodyN s m0 m1 m2 m3 m4 m5 m6 m7 m8 p = .ok (c,q)) : (∀ r ∈ c.f6,r.length ≤ 16384):=by
  unfold bodyN at h
  cases h1 : listF s m1 p with
  | error e => rw [h1] at h;cases h
  | ok x =>
    obtain ⟨i,p1⟩:=x
    rw [h1] at h
    simp only [bI] at h
    cases h2 : latchesF s m2 p1 with
    | error e => rw [h2] at h;cases h
    | ok x =>
      obtain ⟨l,p2⟩:=x
      rw [h2] at h
      simp only [bL] at h
      cases h3 : listF s m3 p2 with
      | error e => rw [h3] at h;cases h
      | ok x =>
        obtain ⟨o,p3⟩:=x
        rw [h3] at h
        simp only [bO] at h
        cases h5 : listF s m5 p3 with
        | error e => rw [h5] at h;cases h
        | ok x =>
          obtain ⟨b,p5⟩:=x
          rw [h5] at h
          simp only [bB] at h
          cases h6 : listF s m6 p5 with
          | error e => rw [h6] at h;cases h
          | ok x =>
            obtain ⟨c6,p6⟩:=x
            rw [h6] at h
            simp only [bC] at h
            cases h7 : sizesF' s m7 p6 with
            | error e => rw [h7] at h;cases h
            | ok x =>
              obtain ⟨z,p7⟩:=x
              rw [h7] at h
              simp only [bZ] at h
              cases hj : justF s z p7 with
              | error e => rw [hj] at h;cases h
              | ok x =>
                obtain ⟨j,pj⟩:=x
                rw [hj] at h
                simp only [bJ] at h
                have key:=justF_len z hj (sizesF_range _ h7)
                cases h8 : listF s m8 pj with
                | error e => rw [h8] at h;cases h
                | ok x =>
                  obtain ⟨f,p8⟩:=x
                  rw [h8] at h
                  simp only [bF] at h
                  cases h4 : andsF s m4 p8 with
                  | error e => rw [h4] at h;cases h
                  | ok x =>
                    obtain ⟨a,p4⟩:=x
                    rw [h4] at h
                    simp only [bA,Except.ok.injEq,Prod.mk.injEq] at h
                    rw [← h.1]
                    exact key
theorem tailGo_size {s : ByteArray} : ∀ (k : Nat) {p : Nat} {n : Bool} {a : List S59} {b : List ByteArray},p ≤ s.size → tailGo s k p n = .ok (a,b) → ∀ x ∈ b,x.size ≤ s.size
  | 0,p,n,a,b,hp,h => by rw [tailGo] at h;cases h
  | k + 1,p,n,a,b,hp,h => by
    rw [tailGo] at h
    split at h
    · injection h with h
      injection h with _ h
      subst h
      intro x hx
      cases hx
    · split at h
      · cases h
      · rename_i l q hl
        have hs:=lineF_size hp hl
        split at h
        · cases h2 : tailGo s k q true with
          | error e => rw [h2] at h;cases h
          | ok y =>
            obtain ⟨a2,b2⟩:=y
            rw [h2] at h
            simp only [consC,Except.ok.injEq,Prod.mk.injEq] at h
            intro x hx
            rw [← h.2] at hx
            rcases List.mem_cons.1 hx with rfl|hx
            · exact hs.1
            · exact tailGo_size k hs.2.2.1 h2 x hx
        · split at h
          · exact tailGo_size k hs.2.2.1 h
          · split at h
            · cases h
            · cases h2 : tailGo s k q false with
              | error e => rw [h2] at h;cases h
              | ok y =>
                obtain ⟨a2,b2⟩:=y
                rw [h2] at h
                simp only [consS,Except.ok.injEq,Prod.mk.injEq] at h
                intro x hx
                rw [← h.2] at hx
                exact tailGo_size k hs.2.2.1 h2 x hx
theorem tailF_size (s : ByteArray) (p : Int) (hs : s.size ≤ 262144) : ∀ x ∈ (tailF s p).2.1,x.size ≤ 262144:=by
  unfold tailF
  rw [if_neg (by omega)]
  split
  · intro x hx;cases hx
  · rename_i hp
    split
    · intro x hx;cases hx
    · rename_i a b h
      intro x hx
      have:=tailGo_size (s.size + 1) (p:=p.toNat) (by omega) h x hx
      omega
end Go.Proofs.YtojepjkpnponoaaDoor.Asc

