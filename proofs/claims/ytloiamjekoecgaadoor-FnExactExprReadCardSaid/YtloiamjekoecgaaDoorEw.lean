/- Plain facts on loops that carry a value from number to number, with what is known of the value at each number. -/
import Derived.Test.YtloiamjekoecgaaDoorEv
namespace Go.Proofs.YtloiamjekoecgaaDoor.Evt

theorem Evt.foldi {α β : Type} {L : β → Int → Nat → Option α} {g : β → Int → β} {N : Int} {F : β → α} (hend : ∀ s, Evt (L s N) (F s))
    (I : Int → β → Prop) (hI : ∀ s c, I c s → 0 ≤ c → c < N → I (c + 1) (g s c))
    (hstep : ∀ s c, I c s → 0 ≤ c → c < N → ∀ r, Evt (L (g s c) (c + 1)) r → Evt (L s c) r) :
    ∀ (m : Nat) (s : β) (c : Int), I c s → 0 ≤ c → c + m = N → Evt (L s c) (F (foldB g m c s))
  | 0, s, c, _, _, e => by
    obtain rfl : c = N := by omega
    exact hend s
  | m + 1, s, c, hs, h0, e => by
    exact hstep s c hs h0 (by omega) _ (Evt.foldi hend I hI hstep m (g s c) (c + 1) (hI s c hs h0 (by omega)) (by omega) (by omega))
theorem foldB_inv {β : Type} {g : β → Int → β} {N : Int} (I : Int → β → Prop) (hI : ∀ s c, I c s → 0 ≤ c → c < N → I (c + 1) (g s c)) :
    ∀ (m : Nat) (s : β) (c : Int), I c s → 0 ≤ c → c + m = N → I N (foldB g m c s)
  | 0, s, c, hs, _, e => by
    obtain rfl : c = N := by omega
    exact hs
  | m + 1, s, c, hs, h0, e => foldB_inv I hI m (g s c) (c + 1) (hI s c hs h0 (by omega)) (by omega) (by omega)

theorem Evt.run {α β : Type} {L : β → Int → Nat → Option α} {g : β → Int → β} {N : Int} {r : α}
    (I : Int → β → Prop) (hI : ∀ s c, I c s → 0 ≤ c → c < N → I (c + 1) (g s c))
    (hstep : ∀ s c, I c s → 0 ≤ c → c < N → Evt (L (g s c) (c + 1)) r → Evt (L s c) r) :
    ∀ (m : Nat) (s : β) (c : Int), I c s → 0 ≤ c → c + m = N → Evt (L (foldB g m c s) N) r → Evt (L s c) r
  | 0, s, c, _, _, e => by
    obtain rfl : c = N := by omega
    exact fun h => h
  | m + 1, s, c, hs, h0, e => fun h => hstep s c hs h0 (by omega) (Evt.run I hI hstep m (g s c) (c + 1) (hI s c hs h0 (by omega)) (by omega) (by omega) h)
theorem foldB_and (q : Int → Bool) : ∀ (m : Nat) (c : Int) (f : Bool), foldB (fun f c => f && q c) m c f = (f && allB q m c)
  | 0, c, f => by simp only [foldB, allB, Bool.and_true]
  | m + 1, c, f => by
    show foldB (fun f c => f && q c) m (c + 1) (f && q c) = (f && (q c && allB q m (c + 1)))
    rw [foldB_and q m (c + 1), Bool.and_assoc]

end Go.Proofs.YtloiamjekoecgaaDoor.Evt
