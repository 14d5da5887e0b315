/- Proved: for every lattice the program's LatEdges answers as the reference's. No other condition. -/
import Derived.Test.YtdpoliolinghfaaSayFnExactLatEdges
import Derived.Test.YtdpoliolinghfaaBase
import Derived.Test.YtdpoliolinghfaaEv
import Derived.Test.YtdpoliolinghfaaEw
namespace Go.Proofs.Ytdpoliolinghfaa.Pure
open Go.RowKit Go.Proofs.Ytdpoliolinghfaa.QFnExactLatEdges Go.Proofs.YtdpoliolinghfaaW.PrintWords Go.Proofs.YtdpoliolinghfaaW.PrintLast Go.Proofs.YtdpoliolinghfaaW.PrintMore
open Go.Proofs.Ytdpoliolinghfaa.Base
set_option linter.unusedSimpArgs false
set_option linter.unusedVariables false

open Go.Proofs.Ytdpoliolinghfaa.Evt
/-- One label at or below another: a bit of a word. -/
def bt (l : List Int) (a b : Int) : Bool := ((Go.bits .and .u64 (shr .u64 (rd l a) b) 1) == 1)
/-- At or below, or at or above. -/
def sd (l : List Int) (a c : Int) (up : Bool) : Bool := if up = true then bt l a c else bt l c a
/-- What the words of a lattice are like before anything is known of its order. -/
structure Lab (N : Int) (l : List Int) : Prop where
  n1 : 1 ≤ N
  n2 : N ≤ 16
  len : (l.length : Int) = N
  bnd : ∀ x ∈ l, 0 ≤ x ∧ x ≤ 18446744073709551615
theorem bit_eq (x b : Int) (h0 : 0 ≤ b) (h1 : b < 16) : spec_l01Bit.f x b = some ((Go.bits .and .u64 (shr .u64 x b) 1) == 1) := by
  unfold spec_l01Bit.f
  have e : IntKind.u64.wrap b = b := by rw [wu64]; omega
  rw [e, if_pos h0]
theorem side_eq {N : Int} {l : List Int} (h : Lab N l) (a c : Int) (up : Bool) (ha : 0 ≤ a ∧ a < N) (hc : 0 ≤ c ∧ c < N) : spec_l01Side.f N l a c up = some (sd l a c up) := by
  have := h.len
  have := h.n2
  unfold spec_l01Side.f sd
  cases up
  · simp only [Bool.false_eq_true, if_false]
    rw [if_pos hc.1, if_pos (by omega), bit_eq _ _ ha.1 (by omega)]
    rfl
  · simp only [if_true]
    rw [if_pos ha.1, if_pos (by omega), bit_eq _ _ hc.1 (by omega)]
    rfl
theorem le_eq {N : Int} {l : List Int} (h : Lab N l) (a c : Int) (ha : 0 ≤ a ∧ a < N) (hc : 0 ≤ c ∧ c < N) : impl_Lat_le.f N l a c = some (bt l a c) := by
  have := h.len
  unfold impl_Lat_le.f bt
  rw [if_pos ha.1, if_pos (by omega), if_pos hc.1]
theorem under_eq {N : Int} {l : List Int} (h : Lab N l) (a c : Int) (up : Bool) (ha : 0 ≤ a ∧ a < N) (hc : 0 ≤ c ∧ c < N) : impl_Lat_bound_1.f up N l a c = some (sd l a c up) := by
  unfold impl_Lat_bound_1.f sd
  cases up
  · simp only [Bool.false_eq_true, if_false]; exact le_eq h c a hc ha
  · simp only [if_true]; exact le_eq h a c ha hc
def lstq (l : List Int) (a b : Int) (up : Bool) (c d : Int) : Bool := !(sd l a d up && sd l b d up && !sd l c d up)
def okc (l : List Int) (N a b : Int) (up : Bool) (c : Int) : Bool := (sd l a c up && sd l b c up) && allB (lstq l a b up c) N.toNat 0
/-- The least (or greatest) of the labels that fit, -1 where there is none. -/
def bnd (l : List Int) (N a b : Int) (up : Bool) : Int := fstB (okc l N a b up) N.toNat 0
theorem sb_false {N : Int} {l : List Int} (h : Lab N l) (a b : Int) (up : Bool) (c : Int) (hc : 0 ≤ c ∧ c < N) (r : Int) (hr : Evt (fun k => spec_l01Bound.l0 k a b up (c + 1) N l) r) (d : Int) :
    Evt (fun k => spec_l01Bound.l1 k a b up c false d N l) r := by
  have := h.n2
  have hj : Evt (fun k => spec_l01Bound.j3 k a b up c false d false N l) r := Evt.step hr fun k => by
    simp only [spec_l01Bound.j3, Bool.false_eq_true, if_false]
    rw [w64 (by omega) (by omega)]
  exact Evt.step hj fun k => by simp only [spec_l01Bound.l1, ite_self]
theorem sb_true {N : Int} {l : List Int} (h : Lab N l) (a b : Int) (up : Bool) (ha : 0 ≤ a ∧ a < N) (hb : 0 ≤ b ∧ b < N) (c : Int) (hc : 0 ≤ c ∧ c < N) (r : Int) (hr : Evt (fun k => spec_l01Bound.l0 k a b up (c + 1) N l) r) :
    Evt (fun k => spec_l01Bound.l1 k a b up c true 0 N l) (if allB (lstq l a b up c) N.toNat 0 = true then c else r) := by
  have := h.n1
  have := h.n2
  refine Evt.allx (L := fun d k => spec_l01Bound.l1 k a b up c true d N l) (N := N) ?_ ?_ N.toNat 0 (by omega) (by omega)
  · refine Evt.step (g := fun k => spec_l01Bound.j3 k a b up c true N false N l) (Evt.done fun k => by simp only [spec_l01Bound.j3, Bool.false_eq_true, if_false, if_true]) fun k => ?_
    simp only [spec_l01Bound.l1]
    rw [if_neg (by omega)]
  · intro d h0 hd
    have e1 : ∀ k, spec_l01Bound.l1 (k + 1) a b up c true d N l = spec_l01Bound.j3 k a b up c true d true N l := fun k => by
      simp only [spec_l01Bound.l1]; rw [if_pos hd]
    have e2 : ∀ k, spec_l01Bound.j3 (k + 1) a b up c true d true N l = if lstq l a b up c d = true then spec_l01Bound.l1 k a b up c true (d + 1) N l else spec_l01Bound.l1 k a b up c false (d + 1) N l := fun k => by
      simp only [spec_l01Bound.j3, if_true]
      rw [side_eq h a d up ha ⟨h0, hd⟩, side_eq h b d up hb ⟨h0, hd⟩, side_eq h c d up hc ⟨h0, hd⟩, w64 (by omega) (by omega)]
      simp only [Option.bind_some]
      unfold lstq
      cases sd l a d up <;> cases sd l b d up <;> cases sd l c d up <;> rfl
    exact fun r' hr' => Evt.step (g := fun k => spec_l01Bound.j3 k a b up c true d true N l) (Evt.ite hr' (sb_false h a b up c hc r hr (d + 1)) e2) e1
theorem spec_bound {N : Int} {l : List Int} (h : Lab N l) (a b : Int) (up : Bool) (ha : 0 ≤ a ∧ a < N) (hb : 0 ≤ b ∧ b < N) : Evt (fun k => spec_l01Bound.f k N l a b up) (bnd l N a b up) := by
  have := h.n1
  have := h.n2
  refine Evt.fstx (L := fun c k => spec_l01Bound.l0 k a b up c N l) (N := N) ?_ ?_ N.toNat 0 (by omega) (by omega)
  · exact Evt.done fun k => by simp only [spec_l01Bound.l0]; rw [if_neg (by omega)]
  · intro c h0 hc r hr
    have e1 : ∀ k, spec_l01Bound.l0 (k + 1) a b up c N l = spec_l01Bound.j1 k a b up c (sd l a c up && sd l b c up) N l := fun k => by
      simp only [spec_l01Bound.l0]
      rw [if_pos hc, side_eq h a c up ha ⟨h0, hc⟩, side_eq h b c up hb ⟨h0, hc⟩]
      simp only [Option.bind_some]
      cases sd l a c up <;> rfl
    have e2 : ∀ t k, spec_l01Bound.j1 (k + 1) a b up c t N l = spec_l01Bound.l1 k a b up c t 0 N l := fun t k => by simp only [spec_l01Bound.j1]
    refine Evt.step (g := fun k => spec_l01Bound.j1 k a b up c (sd l a c up && sd l b c up) N l) (Evt.step (g := fun k => spec_l01Bound.l1 k a b up c (sd l a c up && sd l b c up) 0 N l) ?_ (e2 _)) e1
    unfold okc
    cases hs : (sd l a c up && sd l b c up) with
    | true => simp only [Bool.true_and]; exact sb_true h a b up ha hb c ⟨h0, hc⟩ r hr
    | false => simp only [Bool.false_and, Bool.false_eq_true, if_false]; exact sb_false h a b up c ⟨h0, hc⟩ r hr 0
theorem impl_bound {N : Int} {l : List Int} (h : Lab N l) (a b : Int) (up : Bool) (ha : 0 ≤ a ∧ a < N) (hb : 0 ≤ b ∧ b < N) : Evt (fun k => impl_Lat_bound.f k N l a b up) (bnd l N a b up) := by
  have := h.n1
  have := h.n2
  refine Evt.fstx (L := fun c k => impl_Lat_bound.l0 k a b up N c N l) (N := N) ?_ ?_ N.toNat 0 (by omega) (by omega)
  · exact Evt.done fun k => by simp only [impl_Lat_bound.l0]; rw [if_neg (by omega)]
  · intro c h0 hc r hr
    have e1 : ∀ k, impl_Lat_bound.l0 (k + 1) a b up N c N l = impl_Lat_bound.j1 k a b up c N c (!(sd l a c up && sd l b c up)) N l := fun k => by
      simp only [impl_Lat_bound.l0]
      rw [if_pos hc, under_eq h a c up ha ⟨h0, hc⟩, under_eq h b c up hb ⟨h0, hc⟩]
      simp only [Option.bind_some]
      cases sd l a c up <;> rfl
    refine Evt.step (g := fun k => impl_Lat_bound.j1 k a b up c N c (!(sd l a c up && sd l b c up)) N l) ?_ e1
    unfold okc
    cases hs : (sd l a c up && sd l b c up) with
    | false =>
      simp only [Bool.false_and, Bool.false_eq_true, if_false, Bool.not_false]
      exact Evt.step hr fun k => by
        simp only [impl_Lat_bound.j1, if_true]
        rw [w64 (by omega) (by omega)]
    | true =>
      simp only [Bool.true_and, Bool.not_true]
      have hl : Evt (fun k => impl_Lat_bound.l1 k a b up c true N c N 0 N l) (if (true && allB (lstq l a b up c) N.toNat 0) = true then c else r) := by
        refine Evt.flagx (L := fun f d k => impl_Lat_bound.l1 k a b up c f N c N d N l) (N := N) ?_ ?_ N.toNat true 0 (by omega) (by omega)
        · intro f
          cases f
          · exact Evt.step hr fun k => by
              simp only [impl_Lat_bound.l1]
              rw [if_neg (by omega), if_neg (by decide), w64 (by omega) (by omega)]
          · exact Evt.done fun k => by
              simp only [impl_Lat_bound.l1]
              rw [if_neg (by omega)]
              simp only [if_true]
        · intro f d d0 hd
          have e2 : ∀ k, impl_Lat_bound.l1 (k + 1) a b up c f N c N d N l = if lstq l a b up c d = true then impl_Lat_bound.l1 k a b up c f N c N (d + 1) N l else impl_Lat_bound.l1 k a b up c false N c N (d + 1) N l := fun k => by
            simp only [impl_Lat_bound.l1]
            rw [if_pos hd, under_eq h a d up ha ⟨d0, hd⟩, under_eq h b d up hb ⟨d0, hd⟩, under_eq h c d up ⟨h0, hc⟩ ⟨d0, hd⟩, w64 (by omega) (by omega)]
            simp only [Option.bind_some]
            unfold lstq
            cases sd l a d up <;> cases sd l b d up <;> cases sd l c d up <;> rfl
          exact fun r' r'' hr' hr'' => Evt.ite hr' hr'' e2
      simp only [Bool.true_and] at hl
      exact Evt.step hl fun k => by simp only [impl_Lat_bound.j1, Bool.false_eq_true, if_false]
theorem lstq_comm (l : List Int) (a b : Int) (up : Bool) (c d : Int) : lstq l a b up c d = lstq l b a up c d := by
  unfold lstq
  rw [Bool.and_comm (sd l a d up)]
theorem bnd_comm (l : List Int) (N a b : Int) (up : Bool) : bnd l N a b up = bnd l N b a up := by
  unfold bnd
  refine fstB_congr _ _ _ _ fun c _ _ => ?_
  unfold okc
  rw [Bool.and_comm (sd l a c up), allB_congr _ _ _ _ fun d _ _ => lstq_comm l a b up c d]
theorem bnd_self (l : List Int) (N a : Int) (up : Bool) (ha : 0 ≤ a ∧ a < N) (hr : bt l a a = true) : 0 ≤ bnd l N a a up := by
  unfold bnd
  refine fstB_nonneg _ _ _ (Int.le_refl 0) ⟨a, ha.1, by omega, ?_⟩
  unfold okc
  have e : sd l a a up = true := by unfold sd; cases up <;> simp [hr]
  rw [e, Bool.and_self, Bool.true_and, allB_iff]
  intro d _ _
  unfold lstq
  cases sd l a d up <;> rfl
def q3 (l : List Int) (a b c : Int) : Bool := !(bt l a b && bt l b c && !bt l a c)
def q2 (l : List Int) (N a b : Int) : Bool := !(!decide (a = b) && bt l a b && bt l b a) && allB (q3 l a b) N.toNat 0
def q1 (l : List Int) (N a : Int) : Bool := allB (q2 l N a) N.toNat 0
theorem impl_order {N : Int} {l : List Int} (h : Lab N l) : Evt (fun k => impl_Lat_isOrder.f k N l) (allB (fun a => bt l a a && q1 l N a) N.toNat 0) := by
  have := h.n1
  have := h.n2
  have main : Evt (fun k => impl_Lat_isOrder.f k N l) (if allB (fun a => bt l a a && q1 l N a) N.toNat 0 = true then true else false) := by
    refine Evt.allx (L := fun a k => impl_Lat_isOrder.l0 k N a N l) (N := N) ?_ ?_ N.toNat 0 (by omega) (by omega)
    · exact Evt.done fun k => by simp only [impl_Lat_isOrder.l0]; rw [if_neg (by omega)]
    · intro a a0 ha r hr
      have inner : Evt (fun k => impl_Lat_isOrder.l1 k a N a N 0 N l) (if q1 l N a = true then r else false) := by
        refine Evt.allx (L := fun b k => impl_Lat_isOrder.l1 k a N a N b N l) (N := N) ?_ ?_ N.toNat 0 (by omega) (by omega)
        · exact Evt.step hr fun k => by
            simp only [impl_Lat_isOrder.l1]
            rw [if_neg (by omega), w64 (by omega) (by omega)]
        · intro b b0 hb r' hr'
          have e1 : ∀ k, impl_Lat_isOrder.l1 (k + 1) a N a N b N l = impl_Lat_isOrder.j2 k a b N a N b (!decide (a = b) && bt l a b && bt l b a) N l := fun k => by
            simp only [impl_Lat_isOrder.l1]
            rw [if_pos hb, le_eq h a b ⟨a0, ha⟩ ⟨b0, hb⟩, le_eq h b a ⟨b0, hb⟩ ⟨a0, ha⟩]
            simp only [Option.bind_some]
            by_cases e : a = b
            · rw [if_pos e, decide_eq_true e]; rfl
            · rw [if_neg e, decide_eq_false e]; cases bt l a b <;> rfl
          have inner2 : Evt (fun k => impl_Lat_isOrder.l2 k a b N a N b N 0 N l) (if allB (q3 l a b) N.toNat 0 = true then r' else false) := by
            refine Evt.allx (L := fun c k => impl_Lat_isOrder.l2 k a b N a N b N c N l) (N := N) ?_ ?_ N.toNat 0 (by omega) (by omega)
            · exact Evt.step hr' fun k => by
                simp only [impl_Lat_isOrder.l2]
                rw [if_neg (by omega), w64 (by omega) (by omega)]
            · intro c c0 hc r'' hr''
              exact Evt.ite hr'' (Evt.const false) fun k => by
                simp only [impl_Lat_isOrder.l2]
                rw [if_pos hc, le_eq h a b ⟨a0, ha⟩ ⟨b0, hb⟩, le_eq h b c ⟨b0, hb⟩ ⟨c0, hc⟩, le_eq h a c ⟨a0, ha⟩ ⟨c0, hc⟩, w64 (by omega) (by omega)]
                simp only [Option.bind_some]
                unfold q3
                cases bt l a b <;> cases bt l b c <;> cases bt l a c <;> rfl
          have e2 : ∀ t k, impl_Lat_isOrder.j2 (k + 1) a b N a N b t N l = if (!t) = true then impl_Lat_isOrder.l2 k a b N a N b N 0 N l else some false := fun t k => by
            simp only [impl_Lat_isOrder.j2]; cases t <;> rfl
          have s := Evt.step (f := fun k => impl_Lat_isOrder.l1 k a N a N b N l) (g := fun k => impl_Lat_isOrder.j2 k a b N a N b (!decide (a = b) && bt l a b && bt l b a) N l) (Evt.ite inner2 (Evt.const false) (e2 _)) e1
          unfold q2
          cases hc : (!(!decide (a = b) && bt l a b && bt l b a)) <;> rw [hc] at s <;> simpa using s
      have e1 : ∀ k, impl_Lat_isOrder.l0 (k + 1) N a N l = if bt l a a = true then impl_Lat_isOrder.l1 k a N a N 0 N l else some false := fun k => by
        simp only [impl_Lat_isOrder.l0]
        rw [if_pos ha, le_eq h a a ⟨a0, ha⟩ ⟨a0, ha⟩]
        simp only [Option.bind_some]
      have s := Evt.ite (f := fun k => impl_Lat_isOrder.l0 k N a N l) inner (Evt.const false) e1
      show Evt _ (if (bt l a a && q1 l N a) = true then r else false)
      cases hc : bt l a a <;> rw [hc] at s <;> simpa using s
  cases hx : allB (fun a => bt l a a && q1 l N a) N.toNat 0 <;> rw [hx] at main <;> exact main
/-- All bounds of all pairs. -/
def qb (l : List Int) (N a b : Int) : Bool := decide (0 ≤ bnd l N a b true) && decide (0 ≤ bnd l N a b false)
def words (l : List Int) (N a : Int) : Bool := decide (shr .u64 (rd l a) N = 0)
def okI (l : List Int) (N : Int) : Bool := allB (words l N) N.toNat 0 && (allB (fun a => bt l a a && q1 l N a) N.toNat 0 && allB (fun a => allB (qb l N a) N.toNat 0) N.toNat 0)
theorem impl_ok {N : Int} {l : List Int} (h : Lab N l) : Evt (fun k => impl_isLat.f k N l) (okI l N) := by
  have := h.n1
  have := h.n2
  have := h.len
  have ho := impl_order h
  have hB : Evt (fun k => impl_isLat.l1 k N 0 N l) (if allB (fun a => allB (qb l N a) N.toNat 0) N.toNat 0 = true then true else false) := by
    refine Evt.allx (L := fun a k => impl_isLat.l1 k N a N l) (N := N) ?_ ?_ N.toNat 0 (by omega) (by omega)
    · exact Evt.done fun k => by simp only [impl_isLat.l1]; rw [if_neg (by omega)]
    · intro a a0 ha r hr
      have inner : Evt (fun k => impl_isLat.l2 k a N a N 0 N l) (if allB (qb l N a) N.toNat 0 = true then r else false) := by
        refine Evt.allx (L := fun b k => impl_isLat.l2 k a N a N b N l) (N := N) ?_ ?_ N.toNat 0 (by omega) (by omega)
        · exact Evt.step hr fun k => by
            simp only [impl_isLat.l2]
            rw [if_neg (by omega), w64 (by omega) (by omega)]
        · intro b b0 hb r' hr'
          refine Evt.step (g := fun k => (impl_Lat_bound.f k N l a b true).bind fun t => if t < 0 then some false else (impl_Lat_bound.f k N l a b false).bind fun t => if t < 0 then some false else impl_isLat.l2 k a N a N (b + 1) N l) ?_ fun k => by
            simp only [impl_isLat.l2]
            rw [if_pos hb, w64 (by omega) (by omega)]
          refine Evt.bind (g := fun t k => if t < 0 then some false else (impl_Lat_bound.f k N l a b false).bind fun t => if t < 0 then some false else impl_isLat.l2 k a N a N (b + 1) N l) (impl_bound h a b true ⟨a0, ha⟩ ⟨b0, hb⟩) ?_
          unfold qb
          by_cases c1 : bnd l N a b true < 0
          · rw [decide_eq_false (by omega), Bool.false_and, if_neg (by decide)]
            exact (Evt.const false).congr fun k => if_pos c1
          · rw [decide_eq_true (by omega), Bool.true_and]
            refine Evt.congr ?_ fun k => if_neg c1
            refine Evt.bind (g := fun t k => if t < 0 then some false else impl_isLat.l2 k a N a N (b + 1) N l) (impl_bound h a b false ⟨a0, ha⟩ ⟨b0, hb⟩) ?_
            by_cases c2 : bnd l N a b false < 0
            · rw [decide_eq_false (by omega), if_neg (by decide)]
              exact (Evt.const false).congr fun k => if_pos c2
            · rw [decide_eq_true (by omega), if_pos rfl]
              exact hr'.congr fun k => if_neg c2
      exact Evt.step inner fun k => by
        simp only [impl_isLat.l1]
        rw [if_pos ha]
  have hW : Evt (fun k => impl_isLat.l0 k l N 0 N l) (if allB (words l N) N.toNat 0 = true then (allB (fun a => bt l a a && q1 l N a) N.toNat 0 && allB (fun a => allB (qb l N a) N.toNat 0) N.toNat 0) else false) := by
    refine Evt.allx (L := fun a k => impl_isLat.l0 k l N a N l) (N := N) ?_ ?_ N.toNat 0 (by omega) (by omega)
    · refine Evt.step (g := fun k => (impl_Lat_isOrder.f k N l).bind fun t => if t = true then impl_isLat.l1 k N 0 N l else some false) ?_ fun k => by
        simp only [impl_isLat.l0]
        rw [if_neg (by omega)]
      refine Evt.bind (g := fun t k => if t = true then impl_isLat.l1 k N 0 N l else some false) ho ?_
      cases allB (fun a => bt l a a && q1 l N a) N.toNat 0 with
      | true =>
        rw [Bool.true_and]
        refine Evt.congr ?_ fun k => if_pos rfl
        cases hx : allB (fun a => allB (qb l N a) N.toNat 0) N.toNat 0 <;> rw [hx] at hB <;> exact hB
      | false => exact (Evt.const false).congr fun k => if_neg (by decide)
    · intro a a0 ha r hr
      exact Evt.ite hr (Evt.const false) fun k => by
        simp only [impl_isLat.l0]
        rw [if_pos ha, if_pos a0, if_pos (by omega), if_pos (by omega), w64 (by omega) (by omega)]
        unfold words
        by_cases c : shr .u64 (rd l a) N = 0
        · rw [if_pos c, if_pos (decide_eq_true c)]
        · rw [if_neg c, if_neg (by rw [decide_eq_false c]; decide)]
  have e1 : ∀ k, impl_isLat.f k N l = impl_isLat.j0 k false N l := fun k => by
    simp only [impl_isLat.f, impl_in.f]
    rw [if_pos (by omega), decide_eq_true (by omega)]
    simp only [Option.bind_some, if_true]
    rw [h.len]
    simp
  refine Evt.congr ?_ e1
  unfold okI
  have s : Evt (fun k => impl_isLat.j0 k false N l) (if allB (words l N) N.toNat 0 = true then (allB (fun a => bt l a a && q1 l N a) N.toNat 0 && allB (fun a => allB (qb l N a) N.toNat 0) N.toNat 0) else false) := Evt.step hW fun k => by
    simp only [impl_isLat.j0, Bool.false_eq_true, if_false]
    rw [h.len]
  cases hx : allB (words l N) N.toNat 0 <;> rw [hx] at s <;> simpa using s
theorem toUint64S_step (l ys : List Int) (i k : Nat) (hi : i < l.length) (hl : ys.length = l.length) (hb : l.length ≤ 1048576) :
    laws_toUint64S.l0 (k + 1) l ys (i : Int) = laws_toUint64S.l0 k l (ys.set i (id l[i])) ((i + 1 : Nat) : Int) := by
  have e : rd l (i : Int) = l[i] := rd_nat l i hi
  simp only [laws_toUint64S.l0]
  rw [if_pos (by omega), if_pos (by omega), if_pos (by omega), e, w64 (by omega) (by omega)]
  simp
theorem toUint64S_eq (l : List Int) (k : Nat) (hk : l.length < k) (hb : l.length ≤ 1048576) : laws_toUint64S.f k l = some l := by
  unfold laws_toUint64S.f
  rw [if_pos (by omega), if_pos (by simp; omega)]
  refine up_loop0 (fun k (ys : List Int) i => laws_toUint64S.l0 k l ys (i : Int)) l.length (fun i ys => ys.length = l.length ∧ ys.take i = (l.take i).map id) (fun r => r = some l) ?_ ?_ k _ ?_ hk
  · rintro k s i hi ⟨h1, h2⟩
    left
    obtain ⟨h3, h4⟩ := copied_step id l s i hi h1 h2
    exact ⟨_, ⟨h3, h4⟩, toUint64S_step l s i k hi h1 hb⟩
  · rintro k s ⟨h1, h2⟩
    simp only [laws_toUint64S.l0]
    rw [if_neg (by omega), copied_end _ l s h1 h2]
    simp
  · simp
theorem eqUint64S_refl (l : List Int) (k : Nat) (hk : l.length < k) (hb : l.length ≤ 4611686018427387904) : laws_eqUint64S.f k l l = some true := by
  unfold laws_eqUint64S.f
  rw [if_pos rfl]
  refine up_loop0 (fun k (_ : Unit) i => laws_eqUint64S.l0 k l l (i : Int)) l.length (fun _ _ => True) (fun r => r = some true) ?_ ?_ k () trivial hk
  · rintro k _ i hi _
    left
    refine ⟨(), trivial, ?_⟩
    simp only [laws_eqUint64S.l0, if_true]
    rw [if_pos (by omega), if_pos (by omega), if_pos (by omega), w64 (by omega) (by omega)]
    simp
  · rintro k _ _
    simp only [laws_eqUint64S.l0]
    rw [if_neg (by omega)]
theorem szLat_eq (N : Int) (l : List Int) (hl : l.length ≤ 9223372036854775807) : laws_szLat.f N l 1048576 = some (if (1048576 : Int) < l.length then (-1 : Int) else (1048576 - l.length : Int)) := by
  unfold laws_szLat.f laws_szUint64S.f
  rw [w64 (by omega) (by omega)]
  by_cases h : (1048576 : Int) < l.length
  · simp only [if_pos (show (1048576 : Int) - l.length < 0 by omega), if_pos h, Option.bind_some]
    rfl
  · simp only [if_neg (show ¬ (1048576 : Int) - l.length < 0 by omega), if_neg h, Option.bind_some]
theorem toLat_ev (N : Int) (l : List Int) (hl : l.length ≤ 1048576) : Evt (fun k => laws_toLat.f k N l) (N, l) :=
  Evt.of_lt (n := l.length) fun k hk => by
    show laws_toLat.f k N l = some (N, l)
    unfold laws_toLat.f
    rw [toUint64S_eq l k hk hl]; rfl
theorem eqLat_ev (N : Int) (l : List Int) (hl : l.length ≤ 1048576) : Evt (fun k => laws_eqLat.f k N l N l) true :=
  Evt.of_lt (n := l.length) fun k hk => by
    show laws_eqLat.f k N l N l = some true
    unfold laws_eqLat.f
    rw [if_pos rfl, eqUint64S_refl l k hk (by omega)]; rfl
theorem power_go : ∀ (n : Nat) (x : Int), n ≤ 64 → 0 ≤ x → x * 2 ^ n < 18446744073709551616 → Evt (fun k => spec_l01Power.l0 k (n : Int) x) (x * 2 ^ n)
  | 0, x, _, _, _ => Evt.done fun k => by
    simp only [spec_l01Power.l0]
    rw [if_neg (by omega)]
    simp
  | n + 1, x, hn, h0, hx => by
    have e : x * 2 ^ (n + 1) = (2 * x) * 2 ^ n := by rw [Int.pow_succ, Int.mul_comm 2 x, Int.mul_assoc, Int.mul_comm 2]
    rw [e] at hx ⊢
    have p1 : (1 : Int) ≤ 2 ^ n := by have : (0 : Int) < 2 ^ n := Int.pow_pos (by decide); omega
    have p2 := Int.mul_le_mul_of_nonneg_left p1 (show (0 : Int) ≤ 2 * x by omega)
    refine Evt.step (power_go n (2 * x) (by omega) (by omega) hx) fun k => ?_
    simp only [spec_l01Power.l0]
    rw [if_pos (by omega), w64 (by omega) (by omega), wu64]
    rw [Int.mul_one] at p2
    have e1 : (2 * x) % 18446744073709551616 = 2 * x := by omega
    rw [e1]
    congr 1
    omega
theorem power_ev {N : Int} (h1 : 1 ≤ N) (h2 : N ≤ 16) : Evt (fun k => spec_l01Power.f k N) (2 ^ N.toNat) := by
  have p : (2 : Int) ^ N.toNat ≤ 2 ^ 16 := by
    have : (2 : Nat) ^ N.toNat ≤ 2 ^ 16 := Nat.pow_le_pow_right (by decide) (by omega)
    have := Int.ofNat_le.mpr this
    simpa using this
  have := power_go N.toNat 1 (by omega) (by decide) (by omega)
  rw [Int.one_mul] at this
  have e : ((N.toNat : Nat) : Int) = N := by omega
  rw [e] at this
  exact this
theorem words_eq {N : Int} {l : List Int} (h : Lab N l) (a : Int) (h0 : 0 ≤ a) (ha : a < N) : words l N a = !decide (rd l a ≥ 2 ^ N.toNat) := by
  have := h.n2
  have := h.len
  have hx : 0 ≤ rd l a := by
    have : rd l a ∈ l := by
      have e : a = ((a.toNat : Nat) : Int) := by omega
      rw [e, rd_nat l a.toNat (by omega)]
      exact List.getElem_mem _
    exact (h.bnd _ this).1
  unfold words shr
  have m : min N.toNat IntKind.u64.bits = N.toNat := Nat.min_eq_left (by simp only [IntKind.bits]; omega)
  rw [m]
  generalize rd l a = x at hx
  have hp : (0 : Int) < 2 ^ N.toNat := Int.pow_pos (by decide)
  generalize (2 : Int) ^ N.toNat = p at hp
  by_cases c : x < p
  · rw [decide_eq_true (Int.ediv_eq_zero_of_lt hx c), decide_eq_false (by omega)]; rfl
  · rw [decide_eq_true (show x ≥ p by omega)]
    refine decide_eq_false fun e => c ?_
    have h1 := Int.emod_lt_of_pos x hp
    have h2 := Int.mul_ediv_add_emod x p
    rw [e, Int.mul_zero, Int.zero_add] at h2
    omega
def okS (l : List Int) (N : Int) : Bool := allB (fun a => (bt l a a && !decide (rd l a ≥ 2 ^ N.toNat)) && q1 l N a) N.toNat 0 && allB (fun a => allB (qb l N a) a.toNat 0) N.toNat 0
theorem okS_eq {N : Int} {l : List Int} (h : Lab N l) : okS l N = okI l N := by
  have := h.n1
  have e1 : allB (fun a => (bt l a a && !decide (rd l a ≥ 2 ^ N.toNat)) && q1 l N a) N.toNat 0 = (allB (words l N) N.toNat 0 && allB (fun a => bt l a a && q1 l N a) N.toNat 0) := by
    rw [Bool.eq_iff_iff, Bool.and_eq_true, allB_iff, allB_iff, allB_iff]
    constructor
    · intro g
      constructor
      · intro i h1 h2
        have := g i h1 h2
        rw [words_eq h i h1 (by omega)]
        simp only [Bool.and_eq_true] at this
        exact this.1.2
      · intro i h1 h2
        have := g i h1 h2
        simp only [Bool.and_eq_true] at this ⊢
        exact ⟨this.1.1, this.2⟩
    · rintro ⟨g1, g2⟩ i h1 h2
      have e1 := g1 i h1 h2
      have e2 := g2 i h1 h2
      rw [words_eq h i h1 (by omega)] at e1
      simp only [Bool.and_eq_true] at e1 e2 ⊢
      exact ⟨⟨e2.1, e1⟩, e2.2⟩
  unfold okS okI
  rw [e1, Bool.and_assoc]
  cases allB (words l N) N.toNat 0 with
  | false => rfl
  | true =>
    simp only [Bool.true_and]
    by_cases hr : allB (fun a => bt l a a && q1 l N a) N.toNat 0 = true
    · rw [hr, Bool.true_and, Bool.true_and, Bool.eq_iff_iff, allB_iff, allB_iff]
      rw [allB_iff] at hr
      constructor
      · intro g i h1 h2
        rw [allB_iff]
        intro j h3 h4
        rcases Int.lt_trichotomy j i with c | c | c
        · exact (allB_iff _ _ _).mp (g i h1 h2) j h3 (by omega)
        · subst c
          have := hr j h3 h4
          simp only [Bool.and_eq_true] at this
          unfold qb
          rw [decide_eq_true (bnd_self l N j true ⟨h3, by omega⟩ this.1), decide_eq_true (bnd_self l N j false ⟨h3, by omega⟩ this.1)]
          rfl
        · have := (allB_iff _ _ _).mp (g j h3 h4) i h1 (by omega)
          unfold qb at this ⊢
          rw [bnd_comm l N i j true, bnd_comm l N i j false]
          exact this
      · intro g i h1 h2
        rw [allB_iff]
        intro j h3 h4
        exact (allB_iff _ _ _).mp (g i h1 h2) j h3 (by omega)
    · rw [Bool.eq_false_iff.mpr hr, Bool.false_and, Bool.false_and]
theorem spec_ok {N : Int} {l : List Int} (h : Lab N l) : Evt (fun k => spec_LatOk.f k N l) (okS l N) := by
  have := h.n1
  have := h.n2
  have := h.len
  have hB : Evt (fun k => spec_LatOk.l3 k 0 N l) (if allB (fun a => allB (qb l N a) a.toNat 0) N.toNat 0 = true then true else false) := by
    refine Evt.allx (L := fun a k => spec_LatOk.l3 k a N l) (N := N) ?_ ?_ N.toNat 0 (by omega) (by omega)
    · exact Evt.done fun k => by simp only [spec_LatOk.l3]; rw [if_neg (by omega)]
    · intro a a0 ha r hr
      have inner : Evt (fun k => spec_LatOk.l4 k a 0 N l) (if allB (qb l N a) a.toNat 0 = true then r else false) := by
        refine Evt.allx (L := fun b k => spec_LatOk.l4 k a b N l) (N := a) ?_ ?_ a.toNat 0 (by omega) (by omega)
        · exact Evt.step hr fun k => by
            simp only [spec_LatOk.l4]
            rw [if_neg (by omega), w64 (by omega) (by omega)]
        · intro b b0 hb r' hr'
          refine Evt.step (g := fun k => (spec_l01Bound.f k N l a b true).bind fun t => if t < 0 then some false else (spec_l01Bound.f k N l a b false).bind fun t => if t < 0 then some false else spec_LatOk.l4 k a (b + 1) N l) ?_ fun k => by
            simp only [spec_LatOk.l4]
            rw [if_pos hb, w64 (by omega) (by omega)]
          refine Evt.bind (g := fun t k => if t < 0 then some false else (spec_l01Bound.f k N l a b false).bind fun t => if t < 0 then some false else spec_LatOk.l4 k a (b + 1) N l) (spec_bound h a b true ⟨a0, ha⟩ ⟨b0, by omega⟩) ?_
          unfold qb
          by_cases c1 : bnd l N a b true < 0
          · rw [decide_eq_false (by omega), Bool.false_and, if_neg (by decide)]
            exact (Evt.const false).congr fun k => if_pos c1
          · rw [decide_eq_true (by omega), Bool.true_and]
            refine Evt.congr ?_ fun k => if_neg c1
            refine Evt.bind (g := fun t k => if t < 0 then some false else spec_LatOk.l4 k a (b + 1) N l) (spec_bound h a b false ⟨a0, ha⟩ ⟨b0, by omega⟩) ?_
            by_cases c2 : bnd l N a b false < 0
            · rw [decide_eq_false (by omega), if_neg (by decide)]
              exact (Evt.const false).congr fun k => if_pos c2
            · rw [decide_eq_true (by omega), if_pos rfl]
              exact hr'.congr fun k => if_neg c2
      exact Evt.step inner fun k => by
        simp only [spec_LatOk.l3]
        rw [if_pos ha]
  have hB' : Evt (fun k => spec_LatOk.l3 k 0 N l) (allB (fun a => allB (qb l N a) a.toNat 0) N.toNat 0) := by
    cases hx : allB (fun a => allB (qb l N a) a.toNat 0) N.toNat 0 <;> rw [hx] at hB <;> exact hB
  have hW : Evt (fun k => spec_LatOk.l0 k 0 N l) (if allB (fun a => (bt l a a && !decide (rd l a ≥ 2 ^ N.toNat)) && q1 l N a) N.toNat 0 = true then allB (fun a => allB (qb l N a) a.toNat 0) N.toNat 0 else false) := by
    refine Evt.allx (L := fun a k => spec_LatOk.l0 k a N l) (N := N) ?_ ?_ N.toNat 0 (by omega) (by omega)
    · exact Evt.step hB' fun k => by
        simp only [spec_LatOk.l0]
        rw [if_neg (by omega)]
    · intro a a0 ha r hr
      have inner : Evt (fun k => spec_LatOk.l1 k a 0 N l) (if q1 l N a = true then r else false) := by
        refine Evt.allx (L := fun b k => spec_LatOk.l1 k a b N l) (N := N) ?_ ?_ N.toNat 0 (by omega) (by omega)
        · exact Evt.step hr fun k => by
            simp only [spec_LatOk.l1]
            rw [if_neg (by omega), w64 (by omega) (by omega)]
        · intro b b0 hb r' hr'
          have e1 : ∀ k, spec_LatOk.l1 (k + 1) a b N l = spec_LatOk.j4 k a b (!decide (a = b) && bt l a b && bt l b a) N l := fun k => by
            simp only [spec_LatOk.l1]
            rw [if_pos hb, if_pos a0, if_pos b0, if_pos (show a < (l.length : Int) by omega), if_pos (show b < (l.length : Int) by omega), bit_eq _ b b0 (by omega), bit_eq _ a a0 (by omega)]
            simp only [Option.bind_some]
            by_cases e : a = b
            · rw [if_pos e, decide_eq_true e]; rfl
            · rw [if_neg e, decide_eq_false e]
              show (if bt l a b = true then spec_LatOk.j4 k a b (bt l b a) N l else _) = _
              cases bt l a b <;> rfl
          have inner2 : Evt (fun k => spec_LatOk.l2 k a b 0 N l) (if allB (q3 l a b) N.toNat 0 = true then r' else false) := by
            refine Evt.allx (L := fun c k => spec_LatOk.l2 k a b c N l) (N := N) ?_ ?_ N.toNat 0 (by omega) (by omega)
            · exact Evt.step hr' fun k => by
                simp only [spec_LatOk.l2]
                rw [if_neg (by omega), w64 (by omega) (by omega)]
            · intro c c0 hc r'' hr''
              exact Evt.ite hr'' (Evt.const false) fun k => by
                simp only [spec_LatOk.l2]
                rw [if_pos hc, if_pos a0, if_pos b0, if_pos (show a < (l.length : Int) by omega), if_pos (show b < (l.length : Int) by omega), bit_eq _ b b0 (by omega), bit_eq _ c c0 (by omega), bit_eq _ c c0 (by omega), w64 (by omega) (by omega)]
                simp only [Option.bind_some]
                show (if bt l a b = true then (if bt l b c = true then (if bt l a c = true then _ else _) else _) else _) = _
                unfold q3
                cases bt l a b <;> cases bt l b c <;> cases bt l a c <;> rfl
          have e2 : ∀ t k, spec_LatOk.j4 (k + 1) a b t N l = if (!t) = true then spec_LatOk.l2 k a b 0 N l else some false := fun t k => by
            simp only [spec_LatOk.j4]; cases t <;> rfl
          have s := Evt.step (f := fun k => spec_LatOk.l1 k a b N l) (g := fun k => spec_LatOk.j4 k a b (!decide (a = b) && bt l a b && bt l b a) N l) (Evt.ite inner2 (Evt.const false) (e2 _)) e1
          unfold q2
          cases hc : (!(!decide (a = b) && bt l a b && bt l b a)) <;> rw [hc] at s <;> simpa using s
      have e2 : ∀ t k, spec_LatOk.j2 (k + 1) a t N l = if (!t) = true then spec_LatOk.l1 k a 0 N l else some false := fun t k => by
        simp only [spec_LatOk.j2]; cases t <;> rfl
      have hj : ∀ t, Evt (fun k => spec_LatOk.j2 k a t N l) (if (!t) = true then (if q1 l N a = true then r else false) else false) := fun t => Evt.ite inner (Evt.const false) (e2 t)
      have e1 : ∀ k, spec_LatOk.l0 (k + 1) a N l = if bt l a a = true then ((spec_l01Power.f k N).bind fun t => spec_LatOk.j2 k a (decide (rd l a ≥ t)) N l) else spec_LatOk.j2 k a true N l := fun k => by
        simp only [spec_LatOk.l0]
        rw [if_pos ha, if_pos a0, if_pos (show a < (l.length : Int) by omega), bit_eq _ a a0 (by omega)]
        simp only [Option.bind_some]
        rfl
      have s := Evt.ite (f := fun k => spec_LatOk.l0 k a N l) (Evt.bind (g := fun t k => spec_LatOk.j2 k a (decide (rd l a ≥ t)) N l) (power_ev h.n1 h.n2) (hj _)) (hj true) e1
      show Evt _ (if ((bt l a a && !decide (rd l a ≥ 2 ^ N.toNat)) && q1 l N a) = true then r else false)
      cases hc : bt l a a <;> cases hd : decide (rd l a ≥ 2 ^ N.toNat) <;> rw [hc, hd] at s <;> simpa using s
  have e1 : ∀ k, spec_LatOk.f k N l = spec_LatOk.j0 k false N l := fun k => by
    simp only [spec_LatOk.f]
    rw [if_neg (by omega), if_neg (by omega), h.len]
    simp
  refine Evt.congr ?_ e1
  unfold okS
  have s : Evt (fun k => spec_LatOk.j0 k false N l) _ := Evt.step hW fun k => by simp only [spec_LatOk.j0, Bool.false_eq_true, if_false]
  cases hx : allB (fun a => (bt l a a && !decide (rd l a ≥ 2 ^ N.toNat)) && q1 l N a) N.toNat 0 <;> rw [hx] at s <;> simpa using s
/-- Both say the same of every lattice, and true only of one whose shape is right. -/
theorem both_ok (N : Int) (l : List Int) (hb : ∀ x ∈ l, 0 ≤ x ∧ x ≤ 18446744073709551615) :
    ∃ r, Evt (fun k => spec_LatOk.f k N l) r ∧ Evt (fun k => impl_isLat.f k N l) r ∧ (r = true → Lab N l ∧ okI l N = true) := by
  by_cases h : (1 ≤ N ∧ N ≤ 16) ∧ (l.length : Int) = N
  · have L : Lab N l := ⟨h.1.1, h.1.2, h.2, hb⟩
    exact ⟨okI l N, (okS_eq L) ▸ spec_ok L, impl_ok L, fun hr => ⟨L, hr⟩⟩
  · refine ⟨false, ?_, ?_, fun hr => by cases hr⟩
    · refine Evt.congr (g := fun k => spec_LatOk.j0 k true N l) (Evt.done fun k => by simp only [spec_LatOk.j0, if_true]) fun k => ?_
      simp only [spec_LatOk.f]
      by_cases c1 : N < 1
      · rw [if_pos c1]
      · rw [if_neg c1]
        by_cases c2 : N > 16
        · rw [if_pos c2]
        · rw [if_neg c2]
          have : ((l.length : Int) != N) = true := by simp only [bne_iff_ne, ne_eq]; omega
          rw [this]
    · refine Evt.congr (g := fun k => impl_isLat.j0 k true N l) (Evt.done fun k => by simp only [impl_isLat.j0, if_true]) fun k => ?_
      simp only [impl_isLat.f, impl_in.f]
      by_cases c1 : 1 ≤ N
      · rw [if_pos c1]
        by_cases c2 : N ≤ 16
        · rw [decide_eq_true c2]
          have : ((l.length : Int) != N) = true := by simp only [bne_iff_ne, ne_eq]; omega
          rw [this]
          rfl
        · rw [decide_eq_false c2]
          rfl
      · rw [if_neg c1]
        rfl
def patUint64 (a : Int) (n : Nat) : List Int := (List.range n).map (fun j : Nat => (IntKind.u64.wrap ((a + 1 * (j : Int)))))
theorem markUint64S_step (xs : List Int) (z : Int) (i k : Nat) (hi : i < xs.length) (h0 : 0 ≤ z) (hz : z ≤ 1152921504606846976) (hl : xs.length ≤ 1152921504606846976) :
    laws_markUint64S.l0 (k + 1) xs z (i : Int) = laws_markUint64S.l0 k (xs.set i (IntKind.u64.wrap (z))) (z + 1) ((i + 1 : Nat) : Int) := by
  have v1 : wrap64 (z + 1) = z + 1 := (w64 (by omega) (by omega)).trans (by omega)
  have vi : wrap64 ((i : Int) + 1) = ((i + 1 : Nat) : Int) := (w64 (by omega) (by omega)).trans (by omega)
  simp only [laws_markUint64S.l0, Option.bind_some]
  rw [if_pos (by omega), if_pos (by omega)]
  simp only [v1, vi, rd, Int.toNat_natCast, List.set_set, List.getD_eq_getElem?_getD, List.getElem?_set_self hi, Option.getD_some]
theorem markUint64S_eq (l : List Int) (a : Int) (k : Nat) (hk : l.length < k) (h0 : 0 ≤ a) (ha : a ≤ 1000000000) (hb : l.length ≤ 4611686018427) : laws_markUint64S.f k l a = some (a + 1 * l.length, patUint64 a l.length) := by
  unfold laws_markUint64S.f
  refine up_loop0 (fun k (s : List Int × Int) i => laws_markUint64S.l0 k s.1 s.2 (i : Int)) l.length (fun i s => s.1.length = l.length ∧ s.1.take i = ((List.range l.length).take i).map (fun j : Nat => (IntKind.u64.wrap ((a + 1 * (j : Int))))) ∧ s.2 = a + 1 * (i : Int)) (fun r => r = some (a + 1 * l.length, patUint64 a l.length)) ?_ ?_ k (l, a) ?_ hk
  · rintro k ⟨xs, z⟩ i hi ⟨h1, h2, h3⟩
    simp only at h1 h2 h3
    left
    have hi' : i < (List.range l.length).length := by simpa using hi
    obtain ⟨h4, h5⟩ := copied_step (fun j : Nat => (IntKind.u64.wrap ((a + 1 * (j : Int))))) (List.range l.length) xs i hi' (by simpa using h1) h2
    refine ⟨(_, z + 1), ⟨?_, ?_, ?_⟩, markUint64S_step xs z i k (by omega) (by omega) (by omega) (by omega)⟩
    · simp only [List.length_set]
      exact h1
    · rw [List.getElem_range] at h5
      subst h3
      exact h5
    · simp only [h3]
      omega
  · rintro k ⟨xs, z⟩ ⟨h1, h2, h3⟩
    simp only at h1 h2 h3
    simp only [laws_markUint64S.l0]
    rw [if_neg (by omega)]
    have h4 := copied_end (fun j : Nat => (IntKind.u64.wrap ((a + 1 * (j : Int))))) (List.range l.length) xs (by simpa using h1) (by simpa using h2)
    rw [h3, h4]
    rfl
  · exact ⟨rfl, by simp, by simp⟩
theorem markLat_ev (N : Int) (l : List Int) (hl : l.length ≤ 1048576) : Evt (fun k => laws_markLat.f k N l 1) (1 + 1 * (l.length : Int), patUint64 1 l.length) :=
  Evt.of_lt (n := l.length) fun k hk => by
    show laws_markLat.f k N l 1 = _
    unfold laws_markLat.f
    rw [markUint64S_eq l 1 k hk (by omega) (by omega) (by omega)]; rfl
theorem eqEdgeS_refl (l : List S89) (k : Nat) (hk : l.length < k) (hb : l.length ≤ 4611686018427387904) : laws_eqEdgeS.f k l l = some true := by
  unfold laws_eqEdgeS.f
  rw [if_pos rfl]
  refine up_loop0 (fun k (_ : Unit) i => laws_eqEdgeS.l0 k l l (i : Int)) l.length (fun _ _ => True) (fun r => r = some true) ?_ ?_ k () trivial hk
  · rintro k _ i hi _
    left
    refine ⟨(), trivial, ?_⟩
    simp only [laws_eqEdgeS.l0, laws_eqEdge.f, bne_self_eq_false, Bool.false_eq_true, if_true, if_false, Option.bind_some]
    rw [if_pos (by omega), if_pos (by omega), if_pos (by omega), w64 (by omega) (by omega)]
    simp
  · rintro k _ _
    simp only [laws_eqEdgeS.l0]
    rw [if_neg (by omega)]

def patEdge (a : Int) (n : Nat) : List S89 := (List.range n).map (fun j : Nat => (⟨(a + 2 * (j : Int)), (a + 2 * (j : Int)) + 1⟩ : S89))
theorem markEdgeS_step (xs : List S89) (z : Int) (i k : Nat) (hi : i < xs.length) (h0 : 0 ≤ z) (hz : z ≤ 1152921504606846976) (hl : xs.length ≤ 1152921504606846976) :
    laws_markEdgeS.l0 (k + 1) xs z (i : Int) = laws_markEdgeS.l0 k (xs.set i (⟨z, z + 1⟩ : S89)) (z + 2) ((i + 1 : Nat) : Int) := by
  have v1 : wrap64 (z + 1) = z + 1 := (w64 (by omega) (by omega)).trans (by omega)
  have v2 : wrap64 (z + 1 + 1) = z + 2 := (w64 (by omega) (by omega)).trans (by omega)
  have vi : wrap64 ((i : Int) + 1) = ((i + 1 : Nat) : Int) := (w64 (by omega) (by omega)).trans (by omega)
  simp only [laws_markEdgeS.l0, Option.bind_some]
  rw [if_pos (by omega), if_pos (by omega)]
  simp only [v1, v2, vi, rd_T89, Int.toNat_natCast, List.set_set, List.getD_eq_getElem?_getD, List.getElem?_set_self hi, Option.getD_some]
theorem markEdgeS_eq (l : List S89) (a : Int) (k : Nat) (hk : l.length < k) (h0 : 0 ≤ a) (ha : a ≤ 1000000000) (hb : l.length ≤ 4611686018427) : laws_markEdgeS.f k l a = some (a + 2 * l.length, patEdge a l.length) := by
  unfold laws_markEdgeS.f
  refine up_loop0 (fun k (s : List S89 × Int) i => laws_markEdgeS.l0 k s.1 s.2 (i : Int)) l.length (fun i s => s.1.length = l.length ∧ s.1.take i = ((List.range l.length).take i).map (fun j : Nat => (⟨(a + 2 * (j : Int)), (a + 2 * (j : Int)) + 1⟩ : S89)) ∧ s.2 = a + 2 * (i : Int)) (fun r => r = some (a + 2 * l.length, patEdge a l.length)) ?_ ?_ k (l, a) ?_ hk
  · rintro k ⟨xs, z⟩ i hi ⟨h1, h2, h3⟩
    simp only at h1 h2 h3
    left
    have hi' : i < (List.range l.length).length := by simpa using hi
    obtain ⟨h4, h5⟩ := copied_step (fun j : Nat => (⟨(a + 2 * (j : Int)), (a + 2 * (j : Int)) + 1⟩ : S89)) (List.range l.length) xs i hi' (by simpa using h1) h2
    refine ⟨(_, z + 2), ⟨?_, ?_, ?_⟩, markEdgeS_step xs z i k (by omega) (by omega) (by omega) (by omega)⟩
    · simp only [List.length_set]
      exact h1
    · rw [List.getElem_range] at h5
      subst h3
      exact h5
    · simp only [h3]
      omega
  · rintro k ⟨xs, z⟩ ⟨h1, h2, h3⟩
    simp only at h1 h2 h3
    simp only [laws_markEdgeS.l0]
    rw [if_neg (by omega)]
    have h4 := copied_end (fun j : Nat => (⟨(a + 2 * (j : Int)), (a + 2 * (j : Int)) + 1⟩ : S89)) (List.range l.length) xs (by simpa using h1) (by simpa using h2)
    rw [h3, h4]
    rfl
  · exact ⟨rfl, by simp, by simp⟩
theorem heldEdgeS_step (a : Int) (n i k : Nat) (hi : i < n) (h0 : 0 ≤ a) (ha : a ≤ 1000000000) (hl : n ≤ 4611686018427) :
    laws_heldEdgeS.l0 (k + 1) (patEdge a n) (a + 2 * (i : Int)) (i : Int) = laws_heldEdgeS.l0 k (patEdge a n) (a + 2 * ((i + 1 : Nat) : Int)) ((i + 1 : Nat) : Int) := by
  have hlen : (patEdge a n).length = n := by simp [patEdge]
  have vi : wrap64 ((i : Int) + 1) = ((i + 1 : Nat) : Int) := (w64 (by omega) (by omega)).trans (by omega)
  have e : rd_T89 (patEdge a n) (i : Int) = (fun j : Nat => (⟨(a + 2 * (j : Int)), (a + 2 * (j : Int)) + 1⟩ : S89)) i := by
    unfold rd_T89
    rw [getD_nat _ _ i (by omega)]
    simp only [patEdge, List.getElem_map, List.getElem_range]
  have hz : ((a + 2 * ((i + 1 : Nat) : Int)) : Int) = a + 2 * (i : Int) + 2 := by omega
  rw [hz]
  generalize hzz : a + 2 * (i : Int) = z at *
  have hz0 : 0 ≤ z := by omega
  have hz1 : z ≤ 1152921504606846976 := by omega
  have v1 : wrap64 (z + 1) = z + 1 := (w64 (by omega) (by omega)).trans (by omega)
  have v2 : wrap64 (z + 1 + 1) = z + 2 := (w64 (by omega) (by omega)).trans (by omega)
  simp only [laws_heldEdgeS.l0]
  rw [if_pos (by omega), if_pos (by omega), e]
  simp only [v1, v2, vi, bne_self_eq_false, Bool.false_eq_true, if_true, if_false, hzz]
theorem heldEdgeS_eq (a : Int) (n k : Nat) (hk : n < k) (h0 : 0 ≤ a) (ha : a ≤ 1000000000) (hl : n ≤ 4611686018427) : laws_heldEdgeS.f k (patEdge a n) a = some (a + 2 * n) := by
  unfold laws_heldEdgeS.f
  have hlen : (patEdge a n).length = n := by simp [patEdge]
  refine up_loop0 (fun k (s : Int) i => laws_heldEdgeS.l0 k (patEdge a n) s (i : Int)) n (fun i s => s = a + 2 * (i : Int)) (fun r => r = some (a + 2 * n)) ?_ ?_ k a ?_ hk
  · rintro k s i hi rfl
    left
    exact ⟨_, rfl, heldEdgeS_step a n i k hi h0 ha hl⟩
  · rintro k s rfl
    simp only [laws_heldEdgeS.l0]
    rw [if_neg (by omega)]
  · simp

def qe (l : List Int) (a b c : Int) : Bool := !(!decide (c = a) && !decide (c = b) && bt l a c && bt l c b)
def free (l : List Int) (N a b : Int) : Bool := (!decide (a = b) && bt l a b) && allB (qe l a b) N.toNat 0
def eg2 (l : List Int) (N a : Int) (out : List S89) (b : Int) : List S89 := if free l N a b = true then out ++ [(⟨a, b⟩ : S89)] else out
def eg1 (l : List Int) (N : Int) (out : List S89) (a : Int) : List S89 := foldB (eg2 l N a) N.toNat 0 out
def edgesr (l : List Int) (N : Int) : List S89 := foldB (eg1 l N) N.toNat 0 []
theorem eg2_len (l : List Int) (N a : Int) (out : List S89) (b z : Int) (h : (out.length : Int) ≤ z + b) : ((eg2 l N a out b).length : Int) ≤ z + (b + 1) := by
  unfold eg2
  by_cases e : free l N a b = true
  · rw [if_pos e, List.length_append]; simp only [List.length_cons, List.length_nil]; omega
  · rw [if_neg e]; omega
theorem eg1_len (l : List Int) {N : Int} (h1 : 1 ≤ N) (h2 : N ≤ 16) (out : List S89) (a : Int) (h : (out.length : Int) ≤ 16 * a) : ((eg1 l N out a).length : Int) ≤ 16 * (a + 1) := by
  have := foldB_inv (g := eg2 l N a) (N := N) (fun b (o : List S89) => (o.length : Int) ≤ 16 * a + b) (fun s b hs _ _ => eg2_len l N a s b _ hs) N.toNat out 0 (by omega) (Int.le_refl 0) (by omega)
  unfold eg1
  omega
theorem edges_len (l : List Int) {N : Int} (h1 : 1 ≤ N) (h2 : N ≤ 16) : ((edgesr l N).length : Int) ≤ 16 * N :=
  foldB_inv (N := N) (fun a (o : List S89) => (o.length : Int) ≤ 16 * a) (fun s a hs _ _ => eg1_len l h1 h2 s a hs) N.toNat [] 0 (by simp) (Int.le_refl 0) (by omega)
theorem free_of (l : List Int) (N a b : Int) (t : Bool) (ht : (!decide (a = b) && bt l a b) = t) : free l N a b = (t && allB (qe l a b) N.toNat 0) := by
  unfold free
  rw [ht]
theorem impl_edges {N : Int} {l : List Int} (h : Lab N l) : Evt (fun k => impl_LatEdges.l0 k [] N 0 N l) (edgesr l N) := by
  have := h.n1
  have := h.n2
  refine Evt.foldi (L := fun out a k => impl_LatEdges.l0 k out N a N l) (g := eg1 l N) (N := N) (F := fun s => s) ?_ (fun a (out : List S89) => (out.length : Int) ≤ 16 * a) (fun s a hs _ _ => eg1_len l h.n1 h.n2 s a hs) ?_ N.toNat [] 0 (by simp) (Int.le_refl 0) (by omega)
  · intro s
    exact Evt.done fun k => by simp only [impl_LatEdges.l0]; rw [if_neg (by omega)]
  · intro s a hs a0 ha r hr
    have inner : Evt (fun k => impl_LatEdges.l1 k s a N a N 0 N l) r := by
      refine Evt.run (L := fun out b k => impl_LatEdges.l1 k out a N a N b N l) (g := eg2 l N a) (N := N) (fun b (o : List S89) => (o.length : Int) ≤ 16 * a + b) (fun s b hs _ _ => eg2_len l N a s b _ hs) ?_ N.toNat s 0 (by omega) (Int.le_refl 0) (by omega) ?_
      · intro o b ho b0 hb hr'
        have e1 : ∀ k, impl_LatEdges.l1 (k + 1) o a N a N b N l = impl_LatEdges.j2 k o a b N a N b (!(!decide (a = b) && bt l a b)) N l := fun k => by
          simp only [impl_LatEdges.l1]
          rw [if_pos hb, le_eq h a b ⟨a0, ha⟩ ⟨b0, hb⟩]
          simp only [Option.bind_some]
          by_cases e : a = b
          · rw [if_pos e, decide_eq_true e]; rfl
          · rw [if_neg e, decide_eq_false e]; rfl
        refine Evt.step (g := fun k => impl_LatEdges.j2 k o a b N a N b (!(!decide (a = b) && bt l a b)) N l) ?_ e1
        cases ht : (!decide (a = b) && bt l a b) with
        | false =>
          have ef : eg2 l N a o b = o := by
            unfold eg2
            rw [free_of l N a b false ht, Bool.false_and]
            exact if_neg (by decide)
          rw [ef] at hr'
          exact Evt.step hr' fun k => by
            simp only [impl_LatEdges.j2, Bool.not_false, if_true]
            rw [w64 (by omega) (by omega)]
        | true =>
          have hl : Evt (fun k => impl_LatEdges.l2 k o a b false N a N b N 0 N l) r := by
            refine Evt.run (L := fun f c k => impl_LatEdges.l2 k o a b (!f) N a N b N c N l) (g := fun f c => f && qe l a b c) (N := N) (fun _ _ => True) (fun _ _ _ _ _ => trivial) ?_ N.toNat true 0 trivial (Int.le_refl 0) (by omega) ?_
            · intro f c _ c0 hc hr''
              refine Evt.step hr'' fun k => ?_
              simp only [impl_LatEdges.l2]
              rw [if_pos hc, le_eq h a c ⟨a0, ha⟩ ⟨c0, hc⟩, le_eq h c b ⟨c0, hc⟩ ⟨b0, hb⟩, w64 (by omega) (by omega)]
              simp only [Option.bind_some]
              unfold qe
              cases f with
              | false => rfl
              | true =>
                by_cases d1 : c = a
                · rw [if_pos d1, decide_eq_true d1]; rfl
                · rw [if_neg d1, decide_eq_false d1]
                  by_cases d2 : c = b
                  · rw [if_pos d2, decide_eq_true d2]; rfl
                  · rw [if_neg d2, decide_eq_false d2]
                    cases bt l a c <;> cases bt l c b <;> rfl
            · rw [foldB_and, Bool.true_and]
              refine Evt.step hr' fun k => ?_
              simp only [impl_LatEdges.l2]
              unfold eg2
              rw [if_neg (by omega), free_of l N a b true ht, Bool.true_and, w64 (by omega) (by omega)]
              cases allB (qe l a b) N.toNat 0 with
              | false => rfl
              | true =>
                simp only [Bool.not_true, Bool.false_eq_true, if_false, if_true]
                rw [if_pos (by omega)]
          exact Evt.step hl fun k => by simp only [impl_LatEdges.j2, Bool.not_true, Bool.false_eq_true, if_false]
      · refine Evt.step hr fun k => ?_
        simp only [impl_LatEdges.l1]
        rw [if_neg (by omega), w64 (by omega) (by omega)]
        rfl
    exact Evt.step inner fun k => by
      simp only [impl_LatEdges.l0]
      rw [if_pos ha]
theorem spec_edges {N : Int} {l : List Int} (h : Lab N l) (h1 : Evt (fun k => spec_LatOk.f k N l) true) : Evt (fun k => spec_LatEdges.l0 k [] 0 N l) (edgesr l N) := by
  have := h.n1
  have := h.n2
  have := h.len
  have e0 : ∀ (out : List S89) (a : Int) (r : List S89), Evt (fun k => spec_LatEdges.j1 k out a (decide (a < N)) N l) r → Evt (fun k => spec_LatEdges.l0 k out a N l) r := by
    intro out a r hr
    refine Evt.step (g := fun k => (spec_LatOk.f k N l).bind fun t => if t = true then spec_LatEdges.j1 k out a (decide (a < N)) N l else spec_LatEdges.j1 k out a false N l) ?_ fun k => by simp only [spec_LatEdges.l0]
    exact Evt.bind (g := fun t k => if t = true then spec_LatEdges.j1 k out a (decide (a < N)) N l else spec_LatEdges.j1 k out a false N l) h1 (hr.congr fun k => if_pos rfl)
  refine Evt.foldi (L := fun out a k => spec_LatEdges.l0 k out a N l) (g := eg1 l N) (N := N) (F := fun s => s) ?_ (fun a (out : List S89) => (out.length : Int) ≤ 16 * a) (fun s a hs _ _ => eg1_len l h.n1 h.n2 s a hs) ?_ N.toNat [] 0 (by simp) (Int.le_refl 0) (by omega)
  · intro s
    refine e0 s N s ?_
    rw [decide_eq_false (by omega)]
    exact Evt.done fun k => by simp only [spec_LatEdges.j1, Bool.false_eq_true, if_false]
  · intro s a hs a0 ha r hr
    refine e0 s a r ?_
    rw [decide_eq_true ha]
    have inner : Evt (fun k => spec_LatEdges.l1 k s a 0 N l) r := by
      refine Evt.run (L := fun out b k => spec_LatEdges.l1 k out a b N l) (g := eg2 l N a) (N := N) (fun b (o : List S89) => (o.length : Int) ≤ 16 * a + b) (fun s b hs _ _ => eg2_len l N a s b _ hs) ?_ N.toNat s 0 (by omega) (Int.le_refl 0) (by omega) ?_
      · intro o b ho b0 hb hr'
        have e1 : ∀ k, spec_LatEdges.l1 (k + 1) o a b N l = spec_LatEdges.j3 k o a b (!decide (a = b) && bt l a b) N l := fun k => by
          simp only [spec_LatEdges.l1]
          rw [if_pos hb]
          by_cases e : a = b
          · rw [if_pos e, decide_eq_true e]; rfl
          · rw [if_neg e, decide_eq_false e, if_pos a0, if_pos (show a < (l.length : Int) by omega), bit_eq _ b b0 (by omega)]
            rfl
        refine Evt.step (g := fun k => spec_LatEdges.j3 k o a b (!decide (a = b) && bt l a b) N l) ?_ e1
        have hl : Evt (fun k => spec_LatEdges.l2 k o a b (!decide (a = b) && bt l a b) 0 N l) r := by
          refine Evt.run (L := fun f c k => spec_LatEdges.l2 k o a b f c N l) (g := fun f c => f && qe l a b c) (N := N) (fun _ _ => True) (fun _ _ _ _ _ => trivial) ?_ N.toNat (!decide (a = b) && bt l a b) 0 trivial (Int.le_refl 0) (by omega) ?_
          · intro f c _ c0 hc hr''
            refine Evt.step hr'' fun k => ?_
            simp only [spec_LatEdges.l2]
            rw [if_pos hc, if_pos a0, if_pos c0, if_pos (show a < (l.length : Int) by omega), if_pos (show c < (l.length : Int) by omega), bit_eq _ c c0 (by omega), bit_eq _ b b0 (by omega), w64 (by omega) (by omega)]
            simp only [Option.bind_some]
            show (if c = a then _ else if c = b then _ else if bt l a c = true then (if bt l c b = true then _ else _) else _) = _
            unfold qe
            by_cases d1 : c = a
            · rw [if_pos d1, decide_eq_true d1]; cases f <;> rfl
            · rw [if_neg d1, decide_eq_false d1]
              by_cases d2 : c = b
              · rw [if_pos d2, decide_eq_true d2]; cases f <;> rfl
              · rw [if_neg d2, decide_eq_false d2]
                cases f <;> cases bt l a c <;> cases bt l c b <;> rfl
          · rw [foldB_and]
            refine Evt.step hr' fun k => ?_
            simp only [spec_LatEdges.l2]
            have ef : eg2 l N a o b = if ((!decide (a = b) && bt l a b) && allB (qe l a b) N.toNat 0) = true then o ++ [(⟨a, b⟩ : S89)] else o := rfl
            rw [ef, if_neg (by omega), w64 (by omega) (by omega)]
            cases ((!decide (a = b) && bt l a b) && allB (qe l a b) N.toNat 0) with
            | false => rfl
            | true =>
              simp only [if_true]
              rw [if_pos (by omega)]
        exact Evt.step hl fun k => by simp only [spec_LatEdges.j3]
      · refine Evt.step hr fun k => ?_
        simp only [spec_LatEdges.l1]
        rw [if_neg (by omega), w64 (by omega) (by omega)]
        rfl
    exact Evt.step inner fun k => by simp only [spec_LatEdges.j1, if_true]
theorem both (N : Int) (l : List Int) (hb : ∀ x ∈ l, 0 ≤ x ∧ x ≤ 18446744073709551615) : ∃ r : List S89, r.length ≤ 256 ∧ Evt (fun k => spec_LatEdges.f k N l) r ∧ Evt (fun k => impl_LatEdges.f k N l) r := by
  obtain ⟨r, h1, h2, h3⟩ := both_ok N l hb
  cases r with
  | true =>
    have L := (h3 rfl).1
    have := edges_len l L.n1 L.n2
    have := L.n2
    refine ⟨edgesr l N, by omega, spec_edges L h1, ?_⟩
    exact Evt.bind (f := fun k => impl_isLat.f k N l) (g := fun t k => if t = true then impl_LatEdges.l0 k [] N 0 N l else some []) h2 ((impl_edges L).congr fun k => if_pos rfl)
  | false =>
    refine ⟨[], by simp, ?_, ?_⟩
    · refine Evt.step (f := fun k => spec_LatEdges.l0 k [] 0 N l) (g := fun k => (spec_LatOk.f k N l).bind fun t => if t = true then spec_LatEdges.j1 k [] 0 (decide (0 < N)) N l else spec_LatEdges.j1 k [] 0 false N l) ?_ fun k => by simp only [spec_LatEdges.l0]
      refine Evt.bind (g := fun t k => if t = true then spec_LatEdges.j1 k [] 0 (decide (0 < N)) N l else spec_LatEdges.j1 k [] 0 false N l) h1 ?_
      exact (Evt.done (f := fun k => spec_LatEdges.j1 k [] 0 false N l) fun k => by simp only [spec_LatEdges.j1, Bool.false_eq_true, if_false]).congr fun k => if_neg (by decide)
    · exact Evt.bind (f := fun k => impl_isLat.f k N l) (g := fun t k => if t = true then impl_LatEdges.l0 k [] N 0 N l else some []) h2 ((Evt.const _).congr fun k => if_neg (by decide))
theorem FnExactLatEdges : Say.FnExactLatEdges := by
  intro N l hN hl hb
  refine Evt.ex (r := true) ?_
  by_cases hs : (1048576 : Int) < l.length
  · refine (Evt.const true).congr fun k => ?_
    unfold laws_FnExactLatEdges.f
    rw [szLat_eq N l hl, if_pos hs]
    rfl
  · have hl' : l.length ≤ 1048576 := by omega
    obtain ⟨r, hr, h1, h2⟩ := both N l hb
    obtain ⟨K1, t1⟩ := toLat_ev N l hl'
    obtain ⟨K2, t2⟩ := eqLat_ev N l hl'
    obtain ⟨K3, t3⟩ := h1
    obtain ⟨K4, t4⟩ := h2
    obtain ⟨K5, t5⟩ := markLat_ev N l hl'
    simp only at t1 t2 t3 t4 t5
    refine ⟨K1 + K2 + K3 + K4 + K5 + 260, fun k hk => ?_⟩
    obtain ⟨j, rfl⟩ : ∃ j, k = j + 1 := ⟨k - 1, by omega⟩
    show laws_FnExactLatEdges.f (j + 1) N l = some true
    unfold laws_FnExactLatEdges.f
    rw [szLat_eq N l hl, if_neg hs]
    simp only [Option.bind_some]
    rw [if_neg (by omega)]
    have e1 : ¬ (1 + 1 * (l.length : Int) < 0) := by omega
    have e2 : ¬ (1 + 2 * (r.length : Int) < 0) := by omega
    simp only [t1 (j + 1) (by omega), t2 (j + 1) (by omega), t3 (j + 1) (by omega), t4 (j + 1) (by omega), t5 (j + 1) (by omega), eqEdgeS_refl r (j + 1) (by omega) (by omega), Option.bind_some, if_true, if_neg e1, Bool.not_true]
    simp only [laws_FnExactLatEdges.j0, t1 j (by omega), t4 j (by omega), eqEdgeS_refl r j (by omega) (by omega), markEdgeS_eq r 1 j (by omega) (by omega) (by omega) (by omega), heldEdgeS_eq 1 r.length j (by omega) (by omega) (by omega) (by omega), Option.bind_some, Bool.false_eq_true, if_false, if_true, if_neg e2]

end Go.Proofs.Ytdpoliolinghfaa.Pure
