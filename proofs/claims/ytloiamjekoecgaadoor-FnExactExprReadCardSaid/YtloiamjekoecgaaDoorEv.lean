/- Plain facts on functions that are given a number of rounds: what they tell from some number of rounds on. Loops over a range that look for the first one, or whether all fit. -/
import Derived.Test.YtloiamjekoecgaaDoorBase
namespace Go.Proofs.YtloiamjekoecgaaDoor.Evt

/-- From some number of rounds on the answer is r. -/
def Evt {α : Type} (f : Nat → Option α) (r : α) : Prop := ∃ K, ∀ k, K ≤ k → f k = some r
theorem Evt.step {α : Type} {f g : Nat → Option α} {r : α} (h : Evt g r) (e : ∀ k, f (k + 1) = g k) : Evt f r := by
  obtain ⟨K, hK⟩ := h
  refine ⟨K + 1, fun k hk => ?_⟩
  obtain ⟨j, rfl⟩ : ∃ j, k = j + 1 := ⟨k - 1, by omega⟩
  rw [e]
  exact hK j (by omega)
theorem Evt.const {α : Type} (r : α) : Evt (fun _ => some r) r := ⟨0, fun _ _ => rfl⟩
theorem Evt.congr {α : Type} {f g : Nat → Option α} {r : α} (h : Evt g r) (e : ∀ k, f k = g k) : Evt f r := by
  obtain ⟨K, hK⟩ := h
  exact ⟨K, fun k hk => by rw [e]; exact hK k hk⟩
theorem Evt.bind {α β : Type} {f : Nat → Option α} {g : α → Nat → Option β} {x : α} {r : β} (hf : Evt f x) (hg : Evt (g x) r) : Evt (fun k => (f k).bind fun y => g y k) r := by
  obtain ⟨K, hK⟩ := hf
  obtain ⟨J, hJ⟩ := hg
  refine ⟨max K J, fun k hk => ?_⟩
  show (f k).bind (fun y => g y k) = some r
  rw [hK k (by omega)]
  exact hJ k (by omega)
theorem Evt.ex {α : Type} {f : Nat → Option α} {r : α} (h : Evt f r) : ∃ k, f k = some r := by
  obtain ⟨K, hK⟩ := h
  exact ⟨K, hK K (Nat.le_refl _)⟩
theorem Evt.done {α : Type} {f : Nat → Option α} {r : α} (e : ∀ k, f (k + 1) = some r) : Evt f r := Evt.step (Evt.const r) e
theorem Evt.of_lt {α : Type} {f : Nat → Option α} {r : α} {n : Nat} (h : ∀ k, n < k → f k = some r) : Evt f r := ⟨n + 1, fun k hk => h k hk⟩

/-- Do all of m numbers from c on fit? -/
def allB (q : Int → Bool) : Nat → Int → Bool
  | 0, _ => true
  | m + 1, c => q c && allB q m (c + 1)
/-- The first one of m numbers from c on that fits, or -1. -/
def fstB (p : Int → Bool) : Nat → Int → Int
  | 0, _ => -1
  | m + 1, c => if p c = true then c else fstB p m (c + 1)
theorem allB_iff (q : Int → Bool) : ∀ (m : Nat) (c : Int), allB q m c = true ↔ ∀ i, c ≤ i → i < c + m → q i = true
  | 0, c => by simp only [allB]; exact ⟨fun _ i h1 h2 => by omega, fun _ => trivial⟩
  | m + 1, c => by
    simp only [allB, Bool.and_eq_true]
    rw [allB_iff q m (c + 1)]
    constructor
    · rintro ⟨h1, h2⟩ i h3 h4
      by_cases e : i = c
      · subst e; exact h1
      · exact h2 i (by omega) (by omega)
    · intro h
      exact ⟨h c (by omega) (by omega), fun i h1 h2 => h i (by omega) (by omega)⟩
theorem allB_congr (q q' : Int → Bool) (m : Nat) (c : Int) (h : ∀ i, c ≤ i → i < c + m → q i = q' i) : allB q m c = allB q' m c := by
  rw [Bool.eq_iff_iff, allB_iff, allB_iff]
  constructor
  · intro g i h1 h2
    rw [← h i h1 h2]; exact g i h1 h2
  · intro g i h1 h2
    rw [h i h1 h2]; exact g i h1 h2
theorem fstB_congr (q q' : Int → Bool) : ∀ (m : Nat) (c : Int), (∀ i, c ≤ i → i < c + m → q i = q' i) → fstB q m c = fstB q' m c
  | 0, c, _ => rfl
  | m + 1, c, h => by
    simp only [fstB]
    rw [h c (by omega) (by omega), fstB_congr q q' m (c + 1) (fun i h1 h2 => h i (by omega) (by omega))]
theorem fstB_nonneg (p : Int → Bool) : ∀ (m : Nat) (c : Int), 0 ≤ c → (∃ i, c ≤ i ∧ i < c + m ∧ p i = true) → 0 ≤ fstB p m c
  | 0, c, _, ⟨i, h1, h2, _⟩ => by omega
  | m + 1, c, h0, ⟨i, h1, h2, h3⟩ => by
    simp only [fstB]
    by_cases e : p c = true
    · rw [if_pos e]; exact h0
    · rw [if_neg e]
      refine fstB_nonneg p m (c + 1) (by omega) ⟨i, ?_, by omega, h3⟩
      rcases Int.lt_or_eq_of_le h1 with h | h
      · omega
      · subst h; exact absurd h3 e
theorem fstB_range (p : Int → Bool) : ∀ (m : Nat) (c : Int), 0 ≤ c → fstB p m c = -1 ∨ (c ≤ fstB p m c ∧ fstB p m c < c + m ∧ p (fstB p m c) = true)
  | 0, c, _ => .inl rfl
  | m + 1, c, h0 => by
    simp only [fstB]
    by_cases e : p c = true
    · rw [if_pos e]; exact .inr ⟨by omega, by omega, e⟩
    · rw [if_neg e]
      rcases fstB_range p m (c + 1) (by omega) with h | ⟨h1, h2, h3⟩
      · exact .inl h
      · exact .inr ⟨by omega, by omega, h3⟩
theorem Evt.allx {α : Type} {L : Int → Nat → Option α} {q : Int → Bool} {N : Int} {x y : α} (hend : Evt (L N) x)
    (hstep : ∀ c, 0 ≤ c → c < N → ∀ r, Evt (L (c + 1)) r → Evt (L c) (if q c = true then r else y)) :
    ∀ (m : Nat) (c : Int), 0 ≤ c → c + m = N → Evt (L c) (if allB q m c = true then x else y)
  | 0, c, _, e => by
    obtain rfl : c = N := by omega
    simp only [allB, if_true]; exact hend
  | m + 1, c, h0, e => by
    have ih := Evt.allx hend hstep m (c + 1) (by omega) (by omega)
    have s := hstep c h0 (by omega) _ ih
    show Evt (L c) (if (q c && allB q m (c + 1)) = true then x else y)
    by_cases hq : q c = true
    · rw [if_pos hq] at s
      rw [show (q c && allB q m (c + 1)) = allB q m (c + 1) by rw [hq, Bool.true_and]]
      exact s
    · rw [if_neg hq] at s
      rw [show (q c && allB q m (c + 1)) = false by rw [Bool.eq_false_iff.mpr hq, Bool.false_and], if_neg (by decide)]
      exact s
/-- One step that goes on or ends. -/
theorem Evt.ite {α : Type} {f g g' : Nat → Option α} {q : Bool} {r y : α} (hr : Evt g r) (hy : Evt g' y) (e : ∀ k, f (k + 1) = if q = true then g k else g' k) : Evt f (if q = true then r else y) := by
  cases hq : q with
  | true => rw [if_pos rfl]; exact Evt.step hr fun k => by rw [e, if_pos hq]
  | false => rw [if_neg (by decide)]; exact Evt.step hy fun k => by rw [e, if_neg (by rw [hq]; decide)]
theorem Evt.fstx {L : Int → Nat → Option Int} {p : Int → Bool} {N : Int} (hend : Evt (L N) (-1))
    (hstep : ∀ c, 0 ≤ c → c < N → ∀ r, Evt (L (c + 1)) r → Evt (L c) (if p c = true then c else r)) :
    ∀ (m : Nat) (c : Int), 0 ≤ c → c + m = N → Evt (L c) (fstB p m c)
  | 0, c, _, e => by
    obtain rfl : c = N := by omega
    exact hend
  | m + 1, c, h0, e => by
    have ih := Evt.fstx hend hstep m (c + 1) (by omega) (by omega)
    exact hstep c h0 (by omega) _ ih
theorem Evt.flagx {α : Type} {L : Bool → Int → Nat → Option α} {q : Int → Bool} {N : Int} {x y : α} (hend : ∀ f, Evt (L f N) (if f = true then x else y))
    (hstep : ∀ f c, 0 ≤ c → c < N → ∀ r r', Evt (L f (c + 1)) r → Evt (L false (c + 1)) r' → Evt (L f c) (if q c = true then r else r')) :
    ∀ (m : Nat) (f : Bool) (c : Int), 0 ≤ c → c + m = N → Evt (L f c) (if (f && allB q m c) = true then x else y)
  | 0, f, c, _, e => by
    obtain rfl : c = N := by omega
    simp only [allB, Bool.and_true]; exact hend f
  | m + 1, f, c, h0, e => by
    have s := hstep f c h0 (by omega) _ _ (Evt.flagx hend hstep m f (c + 1) (by omega) (by omega)) (Evt.flagx hend hstep m false (c + 1) (by omega) (by omega))
    show Evt (L f c) (if (f && (q c && allB q m (c + 1))) = true then x else y)
    by_cases hq : q c = true
    · rw [if_pos hq] at s
      rw [show (q c && allB q m (c + 1)) = allB q m (c + 1) by rw [hq, Bool.true_and]]
      exact s
    · rw [if_neg hq] at s
      rw [show (q c && allB q m (c + 1)) = false by rw [Bool.eq_false_iff.mpr hq, Bool.false_and], Bool.and_false, if_neg (by decide)]
      rw [Bool.false_and, if_neg (by decide)] at s
      exact s
/-- A loop that carries a value from number to number. -/
def foldB {β : Type} (g : β → Int → β) : Nat → Int → β → β
  | 0, _, s => s
  | m + 1, c, s => foldB g m (c + 1) (g s c)
theorem Evt.foldx {α β : Type} {L : β → Int → Nat → Option α} {g : β → Int → β} {N : Int} {F : β → α} (hend : ∀ s, Evt (L s N) (F s))
    (I : β → Prop) (hI : ∀ s c, I s → 0 ≤ c → c < N → I (g s c))
    (hstep : ∀ s c, I s → 0 ≤ c → c < N → ∀ r, Evt (L (g s c) (c + 1)) r → Evt (L s c) r) :
    ∀ (m : Nat) (s : β) (c : Int), I s → 0 ≤ c → c + m = N → Evt (L s c) (F (foldB g m c s))
  | 0, s, c, _, _, e => by
    obtain rfl : c = N := by omega
    exact hend s
  | m + 1, s, c, hs, h0, e => by
    exact hstep s c hs h0 (by omega) _ (Evt.foldx hend I hI hstep m (g s c) (c + 1) (hI s c hs h0 (by omega)) (by omega) (by omega))

end Go.Proofs.YtloiamjekoecgaaDoor.Evt
