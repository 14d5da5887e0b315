/- Proved: plain lemmas on counted loops, on whole numbers of 64 bits and on lists. No condition. -/
import Derived.Test.YtloiamjekoecgaaDoorWMore
namespace Go.Proofs.YtloiamjekoecgaaDoor.Base
open Go.RowKit Go.Proofs.YtloiamjekoecgaaDoorW.PrintWords

theorem w64 {i : Int} (h0 : -9223372036854775808 ≤ i) (h1 : i ≤ 9223372036854775807) : wrap64 i = i := by
  unfold wrap64
  omega
theorem wu64 (i : Int) : IntKind.u64.wrap i = i % 18446744073709551616 := by
  simp [IntKind.wrap, IntKind.bits, IntKind.signed]
/-- A loop that counts from i up to n: each round goes on with a state that is as it should be, or ends as wished. -/
theorem up_loop {σ γ : Type} (L : Nat → σ → Nat → Option γ) (n : Nat) (inv : Nat → σ → Prop) (post : Option γ → Prop)
    (hstep : ∀ k s i, i < n → inv i s → (∃ s', inv (i + 1) s' ∧ L (k + 1) s i = L k s' (i + 1)) ∨ post (L (k + 1) s i))
    (hend : ∀ k s, inv n s → post (L (k + 1) s n)) : ∀ (d k : Nat) (s : σ) (i : Nat), i + d = n → inv i s → d < k → post (L k s i) := by
  intro d
  induction d with
  | zero =>
    intro k s i hi hs hk
    obtain ⟨k, rfl⟩ : ∃ m, k = m + 1 := ⟨k - 1, by omega⟩
    have e : i = n := by omega
    subst e
    exact hend k s hs
  | succ d ih =>
    intro k s i hi hs hk
    obtain ⟨k, rfl⟩ : ∃ m, k = m + 1 := ⟨k - 1, by omega⟩
    rcases hstep k s i (by omega) hs with ⟨s', h1, h2⟩ | h
    · rw [h2]
      exact ih k s' (i + 1) (by omega) h1 (by omega)
    · exact h
/-- The same from 0. -/
theorem up_loop0 {σ γ : Type} (L : Nat → σ → Nat → Option γ) (n : Nat) (inv : Nat → σ → Prop) (post : Option γ → Prop)
    (hstep : ∀ k s i, i < n → inv i s → (∃ s', inv (i + 1) s' ∧ L (k + 1) s i = L k s' (i + 1)) ∨ post (L (k + 1) s i))
    (hend : ∀ k s, inv n s → post (L (k + 1) s n)) (k : Nat) (s : σ) (h0 : inv 0 s) (hk : n < k) : post (L k s 0) :=
  up_loop L n inv post hstep hend n k s 0 (by omega) h0 hk
theorem rd_nat (xs : List Int) (i : Nat) (h : i < xs.length) : rd xs (i : Int) = xs[i] := by
  simp [rd, List.getD_eq_getElem?_getD, h]
theorem getD_nat {α : Type} (xs : List α) (z : α) (i : Nat) (h : i < xs.length) : xs.getD (i : Int).toNat z = xs[i] := by
  simp [List.getD_eq_getElem?_getD, h]
/-- A copy, element by element: its state after i rounds. -/
theorem copied_step {α β : Type} (g : α → β) (xs : List α) (ys : List β) (i : Nat) (hi : i < xs.length) (hl : ys.length = xs.length) (h : ys.take i = (xs.take i).map g) :
    (ys.set i (g xs[i])).length = xs.length ∧ (ys.set i (g xs[i])).take (i + 1) = (xs.take (i + 1)).map g := by
  refine ⟨by rw [List.length_set]; exact hl, ?_⟩
  rw [List.take_succ_eq_append_getElem (by rw [List.length_set, hl]; exact hi), List.take_succ_eq_append_getElem hi, List.map_append, List.take_set_of_le (Nat.le_refl i), h]
  simp
theorem copied_end {α β : Type} (g : α → β) (xs : List α) (ys : List β) (hl : ys.length = xs.length) (h : ys.take xs.length = (xs.take xs.length).map g) : ys = xs.map g := by
  rw [List.take_of_length_le (by omega), List.take_of_length_le (Nat.le_refl _)] at h
  exact h
end Go.Proofs.YtloiamjekoecgaaDoor.Base
