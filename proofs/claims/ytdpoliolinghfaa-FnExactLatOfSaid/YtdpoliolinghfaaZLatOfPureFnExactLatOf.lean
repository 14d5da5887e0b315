/- Proved: for every number of labels and list of edges the program's LatOf answers as the reference's. No other condition. -/
import Derived.Test.YtdpoliolinghfaaZLatOfSayFnExactLatOf
import Derived.Test.YtdpoliolinghfaaZLatOfBase
import Derived.Test.YtdpoliolinghfaaZLatOfEv
import Derived.Test.YtdpoliolinghfaaZLatOfEw
namespace Go.Proofs.Ytdpoliolinghfaa.Pure
open Go.RowKit Go.Proofs.Ytdpoliolinghfaa.QFnExactLatOf Go.Proofs.YtdpoliolinghfaaW.PrintWords Go.Proofs.YtdpoliolinghfaaW.PrintLast Go.Proofs.YtdpoliolinghfaaW.PrintMore
open Go.Proofs.Ytdpoliolinghfaa.Base
set_option linter.unusedSimpArgs false
set_option linter.unusedVariables false

open Go.Proofs.Ytdpoliolinghfaa.Evt
/-- One label at or below another: a bit of a word. -/
def bt (l : List Int) (a b : Int) : Bool := ((Go.bits .and .u64 (shr .u64 (rd l a) b) 1) == 1)
/-- At or below, or at or above. -/
def sd (l : List Int) (a c : Int) (up : Bool) : Bool := if up = true then bt l a c else bt l c a
/-- What the words of a lattice are like before anything is known of its order. -/
structure Lab (N : Int) (l : List Int) : Prop where
  n1 : 1 ≤ N
  n2 : N ≤ 16
  len : (l.length : Int) = N
  bnd : ∀ x ∈ l, 0 ≤ x ∧ x ≤ 18446744073709551615
theorem bit_eq (x b : Int) (h0 : 0 ≤ b) (h1 : b < 16) : spec_l01Bit.f x b = some ((Go.bits .and .u64 (shr .u64 x b) 1) == 1) := by
  unfold spec_l01Bit.f
  have e : IntKind.u64.wrap b = b := by rw [wu64]; omega
  rw [e, if_pos h0]
theorem side_eq {N : Int} {l : List Int} (h : Lab N l) (a c : Int) (up : Bool) (ha : 0 ≤ a ∧ a < N) (hc : 0 ≤ c ∧ c < N) : spec_l01Side.f N l a c up = some (sd l a c up) := by
  have := h.len
  have := h.n2
  unfold spec_l01Side.f sd
  cases up
  · simp only [Bool.false_eq_true, if_false]
    rw [if_pos hc.1, if_pos (by omega), bit_eq _ _ ha.1 (by omega)]
    rfl
  · simp only [if_true]
    rw [if_pos ha.1, if_pos (by omega), bit_eq _ _ hc.1 (by omega)]
    rfl
theorem le_eq {N : Int} {l : List Int} (h : Lab N l) (a c : Int) (ha : 0 ≤ a ∧ a < N) (hc : 0 ≤ c ∧ c < N) : impl_Lat_le.f N l a c = some (bt l a c) := by
  have := h.len
  unfold impl_Lat_le.f bt
  rw [if_pos ha.1, if_pos (by omega), if_pos hc.1]
theorem under_eq {N : Int} {l : List Int} (h : Lab N l) (a c : Int) (up : Bool) (ha : 0 ≤ a ∧ a < N) (hc : 0 ≤ c ∧ c < N) : impl_Lat_bound_1.f up N l a c = some (sd l a c up) := by
  unfold impl_Lat_bound_1.f sd
  cases up
  · simp only [Bool.false_eq_true, if_false]; exact le_eq h c a hc ha
  · simp only [if_true]; exact le_eq h a c ha hc
def lstq (l : List Int) (a b : Int) (up : Bool) (c d : Int) : Bool := !(sd l a d up && sd l b d up && !sd l c d up)
def okc (l : List Int) (N a b : Int) (up : Bool) (c : Int) : Bool := (sd l a c up && sd l b c up) && allB (lstq l a b up c) N.toNat 0
/-- The least (or greatest) of the labels that fit, -1 where there is none. -/
def bnd (l : List Int) (N a b : Int) (up : Bool) : Int := fstB (okc l N a b up) N.toNat 0
theorem sb_false {N : Int} {l : List Int} (h : Lab N l) (a b : Int) (up : Bool) (c : Int) (hc : 0 ≤ c ∧ c < N) (r : Int) (hr : Evt (fun k => spec_l01Bound.l0 k a b up (c + 1) N l) r) (d : Int) :
    Evt (fun k => spec_l01Bound.l1 k a b up c false d N l) r := by
  have := h.n2
  have hj : Evt (fun k => spec_l01Bound.j3 k a b up c false d false N l) r := Evt.step hr fun k => by
    simp only [spec_l01Bound.j3, Bool.false_eq_true, if_false]
    rw [w64 (by omega) (by omega)]
  exact Evt.step hj fun k => by simp only [spec_l01Bound.l1, ite_self]
theorem sb_true {N : Int} {l : List Int} (h : Lab N l) (a b : Int) (up : Bool) (ha : 0 ≤ a ∧ a < N) (hb : 0 ≤ b ∧ b < N) (c : Int) (hc : 0 ≤ c ∧ c < N) (r : Int) (hr : Evt (fun k => spec_l01Bound.l0 k a b up (c + 1) N l) r) :
    Evt (fun k => spec_l01Bound.l1 k a b up c true 0 N l) (if allB (lstq l a b up c) N.toNat 0 = true then c else r) := by
  have := h.n1
  have := h.n2
  refine Evt.allx (L := fun d k => spec_l01Bound.l1 k a b up c true d N l) (N := N) ?_ ?_ N.toNat 0 (by omega) (by omega)
  · refine Evt.step (g := fun k => spec_l01Bound.j3 k a b up c true N false N l) (Evt.done fun k => by simp only [spec_l01Bound.j3, Bool.false_eq_true, if_false, if_true]) fun k => ?_
    simp only [spec_l01Bound.l1]
    rw [if_neg (by omega)]
  · intro d h0 hd
    have e1 : ∀ k, spec_l01Bound.l1 (k + 1) a b up c true d N l = spec_l01Bound.j3 k a b up c true d true N l := fun k => by
      simp only [spec_l01Bound.l1]; rw [if_pos hd]
    have e2 : ∀ k, spec_l01Bound.j3 (k + 1) a b up c true d true N l = if lstq l a b up c d = true then spec_l01Bound.l1 k a b up c true (d + 1) N l else spec_l01Bound.l1 k a b up c false (d + 1) N l := fun k => by
      simp only [spec_l01Bound.j3, if_true]
      rw [side_eq h a d up ha ⟨h0, hd⟩, side_eq h b d up hb ⟨h0, hd⟩, side_eq h c d up hc ⟨h0, hd⟩, w64 (by omega) (by omega)]
      simp only [Option.bind_some]
      unfold lstq
      cases sd l a d up <;> cases sd l b d up <;> cases sd l c d up <;> rfl
    exact fun r' hr' => Evt.step (g := fun k => spec_l01Bound.j3 k a b up c true d true N l) (Evt.ite hr' (sb_false h a b up c hc r hr (d + 1)) e2) e1
theorem spec_bound {N : Int} {l : List Int} (h : Lab N l) (a b : Int) (up : Bool) (ha : 0 ≤ a ∧ a < N) (hb : 0 ≤ b ∧ b < N) : Evt (fun k => spec_l01Bound.f k N l a b up) (bnd l N a b up) := by
  have := h.n1
  have := h.n2
  refine Evt.fstx (L := fun c k => spec_l01Bound.l0 k a b up c N l) (N := N) ?_ ?_ N.toNat 0 (by omega) (by omega)
  · exact Evt.done fun k => by simp only [spec_l01Bound.l0]; rw [if_neg (by omega)]
  · intro c h0 hc r hr
    have e1 : ∀ k, spec_l01Bound.l0 (k + 1) a b up c N l = spec_l01Bound.j1 k a b up c (sd l a c up && sd l b c up) N l := fun k => by
      simp only [spec_l01Bound.l0]
      rw [if_pos hc, side_eq h a c up ha ⟨h0, hc⟩, side_eq h b c up hb ⟨h0, hc⟩]
      simp only [Option.bind_some]
      cases sd l a c up <;> rfl
    have e2 : ∀ t k, spec_l01Bound.j1 (k + 1) a b up c t N l = spec_l01Bound.l1 k a b up c t 0 N l := fun t k => by simp only [spec_l01Bound.j1]
    refine Evt.step (g := fun k => spec_l01Bound.j1 k a b up c (sd l a c up && sd l b c up) N l) (Evt.step (g := fun k => spec_l01Bound.l1 k a b up c (sd l a c up && sd l b c up) 0 N l) ?_ (e2 _)) e1
    unfold okc
    cases hs : (sd l a c up && sd l b c up) with
    | true => simp only [Bool.true_and]; exact sb_true h a b up ha hb c ⟨h0, hc⟩ r hr
    | false => simp only [Bool.false_and, Bool.false_eq_true, if_false]; exact sb_false h a b up c ⟨h0, hc⟩ r hr 0
theorem impl_bound {N : Int} {l : List Int} (h : Lab N l) (a b : Int) (up : Bool) (ha : 0 ≤ a ∧ a < N) (hb : 0 ≤ b ∧ b < N) : Evt (fun k => impl_Lat_bound.f k N l a b up) (bnd l N a b up) := by
  have := h.n1
  have := h.n2
  refine Evt.fstx (L := fun c k => impl_Lat_bound.l0 k a b up N c N l) (N := N) ?_ ?_ N.toNat 0 (by omega) (by omega)
  · exact Evt.done fun k => by simp only [impl_Lat_bound.l0]; rw [if_neg (by omega)]
  · intro c h0 hc r hr
    have e1 : ∀ k, impl_Lat_bound.l0 (k + 1) a b up N c N l = impl_Lat_bound.j1 k a b up c N c (!(sd l a c up && sd l b c up)) N l := fun k => by
      simp only [impl_Lat_bound.l0]
      rw [if_pos hc, under_eq h a c up ha ⟨h0, hc⟩, under_eq h b c up hb ⟨h0, hc⟩]
      simp only [Option.bind_some]
      cases sd l a c up <;> rfl
    refine Evt.step (g := fun k => impl_Lat_bound.j1 k a b up c N c (!(sd l a c up && sd l b c up)) N l) ?_ e1
    unfold okc
    cases hs : (sd l a c up && sd l b c up) with
    | false =>
      simp only [Bool.false_and, Bool.false_eq_true, if_false, Bool.not_false]
      exact Evt.step hr fun k => by
        simp only [impl_Lat_bound.j1, if_true]
        rw [w64 (by omega) (by omega)]
    | true =>
      simp only [Bool.true_and, Bool.not_true]
      have hl : Evt (fun k => impl_Lat_bound.l1 k a b up c true N c N 0 N l) (if (true && allB (lstq l a b up c) N.toNat 0) = true then c else r) := by
        refine Evt.flagx (L := fun f d k => impl_Lat_bound.l1 k a b up c f N c N d N l) (N := N) ?_ ?_ N.toNat true 0 (by omega) (by omega)
        · intro f
          cases f
          · exact Evt.step hr fun k => by
              simp only [impl_Lat_bound.l1]
              rw [if_neg (by omega), if_neg (by decide), w64 (by omega) (by omega)]
          · exact Evt.done fun k => by
              simp only [impl_Lat_bound.l1]
              rw [if_neg (by omega)]
              simp only [if_true]
        · intro f d d0 hd
          have e2 : ∀ k, impl_Lat_bound.l1 (k + 1) a b up c f N c N d N l = if lstq l a b up c d = true then impl_Lat_bound.l1 k a b up c f N c N (d + 1) N l else impl_Lat_bound.l1 k a b up c false N c N (d + 1) N l := fun k => by
            simp only [impl_Lat_bound.l1]
            rw [if_pos hd, under_eq h a d up ha ⟨d0, hd⟩, under_eq h b d up hb ⟨d0, hd⟩, under_eq h c d up ⟨h0, hc⟩ ⟨d0, hd⟩, w64 (by omega) (by omega)]
            simp only [Option.bind_some]
            unfold lstq
            cases sd l a d up <;> cases sd l b d up <;> cases sd l c d up <;> rfl
          exact fun r' r'' hr' hr'' => Evt.ite hr' hr'' e2
      simp only [Bool.true_and] at hl
      exact Evt.step hl fun k => by simp only [impl_Lat_bound.j1, Bool.false_eq_true, if_false]
theorem lstq_comm (l : List Int) (a b : Int) (up : Bool) (c d : Int) : lstq l a b up c d = lstq l b a up c d := by
  unfold lstq
  rw [Bool.and_comm (sd l a d up)]
theorem bnd_comm (l : List Int) (N a b : Int) (up : Bool) : bnd l N a b up = bnd l N b a up := by
  unfold bnd
  refine fstB_congr _ _ _ _ fun c _ _ => ?_
  unfold okc
  rw [Bool.and_comm (sd l a c up), allB_congr _ _ _ _ fun d _ _ => lstq_comm l a b up c d]
theorem bnd_self (l : List Int) (N a : Int) (up : Bool) (ha : 0 ≤ a ∧ a < N) (hr : bt l a a = true) : 0 ≤ bnd l N a a up := by
  unfold bnd
  refine fstB_nonneg _ _ _ (Int.le_refl 0) ⟨a, ha.1, by omega, ?_⟩
  unfold okc
  have e : sd l a a up = true := by unfold sd; cases up <;> simp [hr]
  rw [e, Bool.and_self, Bool.true_and, allB_iff]
  intro d _ _
  unfold lstq
  cases sd l a d up <;> rfl
def q3 (l : List Int) (a b c : Int) : Bool := !(bt l a b && bt l b c && !bt l a c)
def q2 (l : List Int) (N a b : Int) : Bool := !(!decide (a = b) && bt l a b && bt l b a) && allB (q3 l a b) N.toNat 0
def q1 (l : List Int) (N a : Int) : Bool := allB (q2 l N a) N.toNat 0
theorem impl_order {N : Int} {l : List Int} (h : Lab N l) : Evt (fun k => impl_Lat_isOrder.f k N l) (allB (fun a => bt l a a && q1 l N a) N.toNat 0) := by
  have := h.n1
  have := h.n2
  have main : Evt (fun k => impl_Lat_isOrder.f k N l) (if allB (fun a => bt l a a && q1 l N a) N.toNat 0 = true then true else false) := by
    refine Evt.allx (L := fun a k => impl_Lat_isOrder.l0 k N a N l) (N := N) ?_ ?_ N.toNat 0 (by omega) (by omega)
    · exact Evt.done fun k => by simp only [impl_Lat_isOrder.l0]; rw [if_neg (by omega)]
    · intro a a0 ha r hr
      have inner : Evt (fun k => impl_Lat_isOrder.l1 k a N a N 0 N l) (if q1 l N a = true then r else false) := by
        refine Evt.allx (L := fun b k => impl_Lat_isOrder.l1 k a N a N b N l) (N := N) ?_ ?_ N.toNat 0 (by omega) (by omega)
        · exact Evt.step hr fun k => by
            simp only [impl_Lat_isOrder.l1]
            rw [if_neg (by omega), w64 (by omega) (by omega)]
        · intro b b0 hb r' hr'
          have e1 : ∀ k, impl_Lat_isOrder.l1 (k + 1) a N a N b N l = impl_Lat_isOrder.j2 k a b N a N b (!decide (a = b) && bt l a b && bt l b a) N l := fun k => by
            simp only [impl_Lat_isOrder.l1]
            rw [if_pos hb, le_eq h a b ⟨a0, ha⟩ ⟨b0, hb⟩, le_eq h b a ⟨b0, hb⟩ ⟨a0, ha⟩]
            simp only [Option.bind_some]
            by_cases e : a = b
            · rw [if_pos e, decide_eq_true e]; rfl
            · rw [if_neg e, decide_eq_false e]; cases bt l a b <;> rfl
          have inner2 : Evt (fun k => impl_Lat_isOrder.l2 k a b N a N b N 0 N l) (if allB (q3 l a b) N.toNat 0 = true then r' else false) := by
            refine Evt.allx (L := fun c k => impl_Lat_isOrder.l2 k a b N a N b N c N l) (N := N) ?_ ?_ N.toNat 0 (by omega) (by omega)
            · exact Evt.step hr' fun k => by
                simp only [impl_Lat_isOrder.l2]
                rw [if_neg (by omega), w64 (by omega) (by omega)]
            · intro c c0 hc r'' hr''
              exact Evt.ite hr'' (Evt.const false) fun k => by
                simp only [impl_Lat_isOrder.l2]
                rw [if_pos hc, le_eq h a b ⟨a0, ha⟩ ⟨b0, hb⟩, le_eq h b c ⟨b0, hb⟩ ⟨c0, hc⟩, le_eq h a c ⟨a0, ha⟩ ⟨c0, hc⟩, w64 (by omega) (by omega)]
                simp only [Option.bind_some]
                unfold q3
                cases bt l a b <;> cases bt l b c <;> cases bt l a c <;> rfl
          have e2 : ∀ t k, impl_Lat_isOrder.j2 (k + 1) a b N a N b t N l = if (!t) = true then impl_Lat_isOrder.l2 k a b N a N b N 0 N l else some false := fun t k => by
            simp only [impl_Lat_isOrder.j2]; cases t <;> rfl
          have s := Evt.step (f := fun k => impl_Lat_isOrder.l1 k a N a N b N l) (g := fun k => impl_Lat_isOrder.j2 k a b N a N b (!decide (a = b) && bt l a b && bt l b a) N l) (Evt.ite inner2 (Evt.const false) (e2 _)) e1
          unfold q2
          cases hc : (!(!decide (a = b) && bt l a b && bt l b a)) <;> rw [hc] at s <;> simpa using s
      have e1 : ∀ k, impl_Lat_isOrder.l0 (k + 1) N a N l = if bt l a a = true then impl_Lat_isOrder.l1 k a N a N 0 N l else some false := fun k => by
        simp only [impl_Lat_isOrder.l0]
        rw [if_pos ha, le_eq h a a ⟨a0, ha⟩ ⟨a0, ha⟩]
        simp only [Option.bind_some]
      have s := Evt.ite (f := fun k => impl_Lat_isOrder.l0 k N a N l) inner (Evt.const false) e1
      show Evt _ (if (bt l a a && q1 l N a) = true then r else false)
      cases hc : bt l a a <;> rw [hc] at s <;> simpa using s
  cases hx : allB (fun a => bt l a a && q1 l N a) N.toNat 0 <;> rw [hx] at main <;> exact main
/-- All bounds of all pairs. -/
def qb (l : List Int) (N a b : Int) : Bool := decide (0 ≤ bnd l N a b true) && decide (0 ≤ bnd l N a b false)
def words (l : List Int) (N a : Int) : Bool := decide (shr .u64 (rd l a) N = 0)
def okI (l : List Int) (N : Int) : Bool := allB (words l N) N.toNat 0 && (allB (fun a => bt l a a && q1 l N a) N.toNat 0 && allB (fun a => allB (qb l N a) N.toNat 0) N.toNat 0)
theorem impl_ok {N : Int} {l : List Int} (h : Lab N l) : Evt (fun k => impl_isLat.f k N l) (okI l N) := by
  have := h.n1
  have := h.n2
  have := h.len
  have ho := impl_order h
  have hB : Evt (fun k => impl_isLat.l1 k N 0 N l) (if allB (fun a => allB (qb l N a) N.toNat 0) N.toNat 0 = true then true else false) := by
    refine Evt.allx (L := fun a k => impl_isLat.l1 k N a N l) (N := N) ?_ ?_ N.toNat 0 (by omega) (by omega)
    · exact Evt.done fun k => by simp only [impl_isLat.l1]; rw [if_neg (by omega)]
    · intro a a0 ha r hr
      have inner : Evt (fun k => impl_isLat.l2 k a N a N 0 N l) (if allB (qb l N a) N.toNat 0 = true then r else false) := by
        refine Evt.allx (L := fun b k => impl_isLat.l2 k a N a N b N l) (N := N) ?_ ?_ N.toNat 0 (by omega) (by omega)
        · exact Evt.step hr fun k => by
            simp only [impl_isLat.l2]
            rw [if_neg (by omega), w64 (by omega) (by omega)]
        · intro b b0 hb r' hr'
          refine Evt.step (g := fun k => (impl_Lat_bound.f k N l a b true).bind fun t => if t < 0 then some false else (impl_Lat_bound.f k N l a b false).bind fun t => if t < 0 then some false else impl_isLat.l2 k a N a N (b + 1) N l) ?_ fun k => by
            simp only [impl_isLat.l2]
            rw [if_pos hb, w64 (by omega) (by omega)]
          refine Evt.bind (g := fun t k => if t < 0 then some false else (impl_Lat_bound.f k N l a b false).bind fun t => if t < 0 then some false else impl_isLat.l2 k a N a N (b + 1) N l) (impl_bound h a b true ⟨a0, ha⟩ ⟨b0, hb⟩) ?_
          unfold qb
          by_cases c1 : bnd l N a b true < 0
          · rw [decide_eq_false (by omega), Bool.false_and, if_neg (by decide)]
            exact (Evt.const false).congr fun k => if_pos c1
          · rw [decide_eq_true (by omega), Bool.true_and]
            refine Evt.congr ?_ fun k => if_neg c1
            refine Evt.bind (g := fun t k => if t < 0 then some false else impl_isLat.l2 k a N a N (b + 1) N l) (impl_bound h a b false ⟨a0, ha⟩ ⟨b0, hb⟩) ?_
            by_cases c2 : bnd l N a b false < 0
            · rw [decide_eq_false (by omega), if_neg (by decide)]
              exact (Evt.const false).congr fun k => if_pos c2
            · rw [decide_eq_true (by omega), if_pos rfl]
              exact hr'.congr fun k => if_neg c2
      exact Evt.step inner fun k => by
        simp only [impl_isLat.l1]
        rw [if_pos ha]
  have hW : Evt (fun k => impl_isLat.l0 k l N 0 N l) (if allB (words l N) N.toNat 0 = true then (allB (fun a => bt l a a && q1 l N a) N.toNat 0 && allB (fun a => allB (qb l N a) N.toNat 0) N.toNat 0) else false) := by
    refine Evt.allx (L := fun a k => impl_isLat.l0 k l N a N l) (N := N) ?_ ?_ N.toNat 0 (by omega) (by omega)
    · refine Evt.step (g := fun k => (impl_Lat_isOrder.f k N l).bind fun t => if t = true then impl_isLat.l1 k N 0 N l else some false) ?_ fun k => by
        simp only [impl_isLat.l0]
        rw [if_neg (by omega)]
      refine Evt.bind (g := fun t k => if t = true then impl_isLat.l1 k N 0 N l else some false) ho ?_
      cases allB (fun a => bt l a a && q1 l N a) N.toNat 0 with
      | true =>
        rw [Bool.true_and]
        refine Evt.congr ?_ fun k => if_pos rfl
        cases hx : allB (fun a => allB (qb l N a) N.toNat 0) N.toNat 0 <;> rw [hx] at hB <;> exact hB
      | false => exact (Evt.const false).congr fun k => if_neg (by decide)
    · intro a a0 ha r hr
      exact Evt.ite hr (Evt.const false) fun k => by
        simp only [impl_isLat.l0]
        rw [if_pos ha, if_pos a0, if_pos (by omega), if_pos (by omega), w64 (by omega) (by omega)]
        unfold words
        by_cases c : shr .u64 (rd l a) N = 0
        · rw [if_pos c, if_pos (decide_eq_true c)]
        · rw [if_neg c, if_neg (by rw [decide_eq_false c]; decide)]
  have e1 : ∀ k, impl_isLat.f k N l = impl_isLat.j0 k false N l := fun k => by
    simp only [impl_isLat.f, impl_in.f]
    rw [if_pos (by omega), decide_eq_true (by omega)]
    simp only [Option.bind_some, if_true]
    rw [h.len]
    simp
  refine Evt.congr ?_ e1
  unfold okI
  have s : Evt (fun k => impl_isLat.j0 k false N l) (if allB (words l N) N.toNat 0 = true then (allB (fun a => bt l a a && q1 l N a) N.toNat 0 && allB (fun a => allB (qb l N a) N.toNat 0) N.toNat 0) else false) := Evt.step hW fun k => by
    simp only [impl_isLat.j0, Bool.false_eq_true, if_false]
    rw [h.len]
  cases hx : allB (words l N) N.toNat 0 <;> rw [hx] at s <;> simpa using s
theorem eqUint64S_refl (l : List Int) (k : Nat) (hk : l.length < k) (hb : l.length ≤ 4611686018427387904) : laws_eqUint64S.f k l l = some true := by
  unfold laws_eqUint64S.f
  rw [if_pos rfl]
  refine up_loop0 (fun k (_ : Unit) i => laws_eqUint64S.l0 k l l (i : Int)) l.length (fun _ _ => True) (fun r => r = some true) ?_ ?_ k () trivial hk
  · rintro k _ i hi _
    left
    refine ⟨(), trivial, ?_⟩
    simp only [laws_eqUint64S.l0, if_true]
    rw [if_pos (by omega), if_pos (by omega), if_pos (by omega), w64 (by omega) (by omega)]
    simp
  · rintro k _ _
    simp only [laws_eqUint64S.l0]
    rw [if_neg (by omega)]
theorem eqLat_ev (N : Int) (l : List Int) (hl : l.length ≤ 1048576) : Evt (fun k => laws_eqLat.f k N l N l) true :=
  Evt.of_lt (n := l.length) fun k hk => by
    show laws_eqLat.f k N l N l = some true
    unfold laws_eqLat.f
    rw [if_pos rfl, eqUint64S_refl l k hk (by omega)]; rfl
theorem power_go : ∀ (n : Nat) (x : Int), n ≤ 64 → 0 ≤ x → x * 2 ^ n < 18446744073709551616 → Evt (fun k => spec_l01Power.l0 k (n : Int) x) (x * 2 ^ n)
  | 0, x, _, _, _ => Evt.done fun k => by
    simp only [spec_l01Power.l0]
    rw [if_neg (by omega)]
    simp
  | n + 1, x, hn, h0, hx => by
    have e : x * 2 ^ (n + 1) = (2 * x) * 2 ^ n := by rw [Int.pow_succ, Int.mul_comm 2 x, Int.mul_assoc, Int.mul_comm 2]
    rw [e] at hx ⊢
    have p1 : (1 : Int) ≤ 2 ^ n := by have : (0 : Int) < 2 ^ n := Int.pow_pos (by decide); omega
    have p2 := Int.mul_le_mul_of_nonneg_left p1 (show (0 : Int) ≤ 2 * x by omega)
    refine Evt.step (power_go n (2 * x) (by omega) (by omega) hx) fun k => ?_
    simp only [spec_l01Power.l0]
    rw [if_pos (by omega), w64 (by omega) (by omega), wu64]
    rw [Int.mul_one] at p2
    have e1 : (2 * x) % 18446744073709551616 = 2 * x := by omega
    rw [e1]
    congr 1
    omega
theorem power_ev {N : Int} (h1 : 1 ≤ N) (h2 : N ≤ 16) : Evt (fun k => spec_l01Power.f k N) (2 ^ N.toNat) := by
  have p : (2 : Int) ^ N.toNat ≤ 2 ^ 16 := by
    have : (2 : Nat) ^ N.toNat ≤ 2 ^ 16 := Nat.pow_le_pow_right (by decide) (by omega)
    have := Int.ofNat_le.mpr this
    simpa using this
  have := power_go N.toNat 1 (by omega) (by decide) (by omega)
  rw [Int.one_mul] at this
  have e : ((N.toNat : Nat) : Int) = N := by omega
  rw [e] at this
  exact this
theorem words_eq {N : Int} {l : List Int} (h : Lab N l) (a : Int) (h0 : 0 ≤ a) (ha : a < N) : words l N a = !decide (rd l a ≥ 2 ^ N.toNat) := by
  have := h.n2
  have := h.len
  have hx : 0 ≤ rd l a := by
    have : rd l a ∈ l := by
      have e : a = ((a.toNat : Nat) : Int) := by omega
      rw [e, rd_nat l a.toNat (by omega)]
      exact List.getElem_mem _
    exact (h.bnd _ this).1
  unfold words shr
  have m : min N.toNat IntKind.u64.bits = N.toNat := Nat.min_eq_left (by simp only [IntKind.bits]; omega)
  rw [m]
  generalize rd l a = x at hx
  have hp : (0 : Int) < 2 ^ N.toNat := Int.pow_pos (by decide)
  generalize (2 : Int) ^ N.toNat = p at hp
  by_cases c : x < p
  · rw [decide_eq_true (Int.ediv_eq_zero_of_lt hx c), decide_eq_false (by omega)]; rfl
  · rw [decide_eq_true (show x ≥ p by omega)]
    refine decide_eq_false fun e => c ?_
    have h1 := Int.emod_lt_of_pos x hp
    have h2 := Int.mul_ediv_add_emod x p
    rw [e, Int.mul_zero, Int.zero_add] at h2
    omega
def okS (l : List Int) (N : Int) : Bool := allB (fun a => (bt l a a && !decide (rd l a ≥ 2 ^ N.toNat)) && q1 l N a) N.toNat 0 && allB (fun a => allB (qb l N a) a.toNat 0) N.toNat 0
theorem okS_eq {N : Int} {l : List Int} (h : Lab N l) : okS l N = okI l N := by
  have := h.n1
  have e1 : allB (fun a => (bt l a a && !decide (rd l a ≥ 2 ^ N.toNat)) && q1 l N a) N.toNat 0 = (allB (words l N) N.toNat 0 && allB (fun a => bt l a a && q1 l N a) N.toNat 0) := by
    rw [Bool.eq_iff_iff, Bool.and_eq_true, allB_iff, allB_iff, allB_iff]
    constructor
    · intro g
      constructor
      · intro i h1 h2
        have := g i h1 h2
        rw [words_eq h i h1 (by omega)]
        simp only [Bool.and_eq_true] at this
        exact this.1.2
      · intro i h1 h2
        have := g i h1 h2
        simp only [Bool.and_eq_true] at this ⊢
        exact ⟨this.1.1, this.2⟩
    · rintro ⟨g1, g2⟩ i h1 h2
      have e1 := g1 i h1 h2
      have e2 := g2 i h1 h2
      rw [words_eq h i h1 (by omega)] at e1
      simp only [Bool.and_eq_true] at e1 e2 ⊢
      exact ⟨⟨e2.1, e1⟩, e2.2⟩
  unfold okS okI
  rw [e1, Bool.and_assoc]
  cases allB (words l N) N.toNat 0 with
  | false => rfl
  | true =>
    simp only [Bool.true_and]
    by_cases hr : allB (fun a => bt l a a && q1 l N a) N.toNat 0 = true
    · rw [hr, Bool.true_and, Bool.true_and, Bool.eq_iff_iff, allB_iff, allB_iff]
      rw [allB_iff] at hr
      constructor
      · intro g i h1 h2
        rw [allB_iff]
        intro j h3 h4
        rcases Int.lt_trichotomy j i with c | c | c
        · exact (allB_iff _ _ _).mp (g i h1 h2) j h3 (by omega)
        · subst c
          have := hr j h3 h4
          simp only [Bool.and_eq_true] at this
          unfold qb
          rw [decide_eq_true (bnd_self l N j true ⟨h3, by omega⟩ this.1), decide_eq_true (bnd_self l N j false ⟨h3, by omega⟩ this.1)]
          rfl
        · have := (allB_iff _ _ _).mp (g j h3 h4) i h1 (by omega)
          unfold qb at this ⊢
          rw [bnd_comm l N i j true, bnd_comm l N i j false]
          exact this
      · intro g i h1 h2
        rw [allB_iff]
        intro j h3 h4
        exact (allB_iff _ _ _).mp (g i h1 h2) j h3 (by omega)
    · rw [Bool.eq_false_iff.mpr hr, Bool.false_and, Bool.false_and]
theorem spec_ok {N : Int} {l : List Int} (h : Lab N l) : Evt (fun k => spec_LatOk.f k N l) (okS l N) := by
  have := h.n1
  have := h.n2
  have := h.len
  have hB : Evt (fun k => spec_LatOk.l3 k 0 N l) (if allB (fun a => allB (qb l N a) a.toNat 0) N.toNat 0 = true then true else false) := by
    refine Evt.allx (L := fun a k => spec_LatOk.l3 k a N l) (N := N) ?_ ?_ N.toNat 0 (by omega) (by omega)
    · exact Evt.done fun k => by simp only [spec_LatOk.l3]; rw [if_neg (by omega)]
    · intro a a0 ha r hr
      have inner : Evt (fun k => spec_LatOk.l4 k a 0 N l) (if allB (qb l N a) a.toNat 0 = true then r else false) := by
        refine Evt.allx (L := fun b k => spec_LatOk.l4 k a b N l) (N := a) ?_ ?_ a.toNat 0 (by omega) (by omega)
        · exact Evt.step hr fun k => by
            simp only [spec_LatOk.l4]
            rw [if_neg (by omega), w64 (by omega) (by omega)]
        · intro b b0 hb r' hr'
          refine Evt.step (g := fun k => (spec_l01Bound.f k N l a b true).bind fun t => if t < 0 then some false else (spec_l01Bound.f k N l a b false).bind fun t => if t < 0 then some false else spec_LatOk.l4 k a (b + 1) N l) ?_ fun k => by
            simp only [spec_LatOk.l4]
            rw [if_pos hb, w64 (by omega) (by omega)]
          refine Evt.bind (g := fun t k => if t < 0 then some false else (spec_l01Bound.f k N l a b false).bind fun t => if t < 0 then some false else spec_LatOk.l4 k a (b + 1) N l) (spec_bound h a b true ⟨a0, ha⟩ ⟨b0, by omega⟩) ?_
          unfold qb
          by_cases c1 : bnd l N a b true < 0
          · rw [decide_eq_false (by omega), Bool.false_and, if_neg (by decide)]
            exact (Evt.const false).congr fun k => if_pos c1
          · rw [decide_eq_true (by omega), Bool.true_and]
            refine Evt.congr ?_ fun k => if_neg c1
            refine Evt.bind (g := fun t k => if t < 0 then some false else spec_LatOk.l4 k a (b + 1) N l) (spec_bound h a b false ⟨a0, ha⟩ ⟨b0, by omega⟩) ?_
            by_cases c2 : bnd l N a b false < 0
            · rw [decide_eq_false (by omega), if_neg (by decide)]
              exact (Evt.const false).congr fun k => if_pos c2
            · rw [decide_eq_true (by omega), if_pos rfl]
              exact hr'.congr fun k => if_neg c2
      exact Evt.step inner fun k => by
        simp only [spec_LatOk.l3]
        rw [if_pos ha]
  have hB' : Evt (fun k => spec_LatOk.l3 k 0 N l) (allB (fun a => allB (qb l N a) a.toNat 0) N.toNat 0) := by
    cases hx : allB (fun a => allB (qb l N a) a.toNat 0) N.toNat 0 <;> rw [hx] at hB <;> exact hB
  have hW : Evt (fun k => spec_LatOk.l0 k 0 N l) (if allB (fun a => (bt l a a && !decide (rd l a ≥ 2 ^ N.toNat)) && q1 l N a) N.toNat 0 = true then allB (fun a => allB (qb l N a) a.toNat 0) N.toNat 0 else false) := by
    refine Evt.allx (L := fun a k => spec_LatOk.l0 k a N l) (N := N) ?_ ?_ N.toNat 0 (by omega) (by omega)
    · exact Evt.step hB' fun k => by
        simp only [spec_LatOk.l0]
        rw [if_neg (by omega)]
    · intro a a0 ha r hr
      have inner : Evt (fun k => spec_LatOk.l1 k a 0 N l) (if q1 l N a = true then r else false) := by
        refine Evt.allx (L := fun b k => spec_LatOk.l1 k a b N l) (N := N) ?_ ?_ N.toNat 0 (by omega) (by omega)
        · exact Evt.step hr fun k => by
            simp only [spec_LatOk.l1]
            rw [if_neg (by omega), w64 (by omega) (by omega)]
        · intro b b0 hb r' hr'
          have e1 : ∀ k, spec_LatOk.l1 (k + 1) a b N l = spec_LatOk.j4 k a b (!decide (a = b) && bt l a b && bt l b a) N l := fun k => by
            simp only [spec_LatOk.l1]
            rw [if_pos hb, if_pos a0, if_pos b0, if_pos (show a < (l.length : Int) by omega), if_pos (show b < (l.length : Int) by omega), bit_eq _ b b0 (by omega), bit_eq _ a a0 (by omega)]
            simp only [Option.bind_some]
            by_cases e : a = b
            · rw [if_pos e, decide_eq_true e]; rfl
            · rw [if_neg e, decide_eq_false e]
              show (if bt l a b = true then spec_LatOk.j4 k a b (bt l b a) N l else _) = _
              cases bt l a b <;> rfl
          have inner2 : Evt (fun k => spec_LatOk.l2 k a b 0 N l) (if allB (q3 l a b) N.toNat 0 = true then r' else false) := by
            refine Evt.allx (L := fun c k => spec_LatOk.l2 k a b c N l) (N := N) ?_ ?_ N.toNat 0 (by omega) (by omega)
            · exact Evt.step hr' fun k => by
                simp only [spec_LatOk.l2]
                rw [if_neg (by omega), w64 (by omega) (by omega)]
            · intro c c0 hc r'' hr''
              exact Evt.ite hr'' (Evt.const false) fun k => by
                simp only [spec_LatOk.l2]
                rw [if_pos hc, if_pos a0, if_pos b0, if_pos (show a < (l.length : Int) by omega), if_pos (show b < (l.length : Int) by omega), bit_eq _ b b0 (by omega), bit_eq _ c c0 (by omega), bit_eq _ c c0 (by omega), w64 (by omega) (by omega)]
                simp only [Option.bind_some]
                show (if bt l a b = true then (if bt l b c = true then (if bt l a c = true then _ else _) else _) else _) = _
                unfold q3
                cases bt l a b <;> cases bt l b c <;> cases bt l a c <;> rfl
          have e2 : ∀ t k, spec_LatOk.j4 (k + 1) a b t N l = if (!t) = true then spec_LatOk.l2 k a b 0 N l else some false := fun t k => by
            simp only [spec_LatOk.j4]; cases t <;> rfl
          have s := Evt.step (f := fun k => spec_LatOk.l1 k a b N l) (g := fun k => spec_LatOk.j4 k a b (!decide (a = b) && bt l a b && bt l b a) N l) (Evt.ite inner2 (Evt.const false) (e2 _)) e1
          unfold q2
          cases hc : (!(!decide (a = b) && bt l a b && bt l b a)) <;> rw [hc] at s <;> simpa using s
      have e2 : ∀ t k, spec_LatOk.j2 (k + 1) a t N l = if (!t) = true then spec_LatOk.l1 k a 0 N l else some false := fun t k => by
        simp only [spec_LatOk.j2]; cases t <;> rfl
      have hj : ∀ t, Evt (fun k => spec_LatOk.j2 k a t N l) (if (!t) = true then (if q1 l N a = true then r else false) else false) := fun t => Evt.ite inner (Evt.const false) (e2 t)
      have e1 : ∀ k, spec_LatOk.l0 (k + 1) a N l = if bt l a a = true then ((spec_l01Power.f k N).bind fun t => spec_LatOk.j2 k a (decide (rd l a ≥ t)) N l) else spec_LatOk.j2 k a true N l := fun k => by
        simp only [spec_LatOk.l0]
        rw [if_pos ha, if_pos a0, if_pos (show a < (l.length : Int) by omega), bit_eq _ a a0 (by omega)]
        simp only [Option.bind_some]
        rfl
      have s := Evt.ite (f := fun k => spec_LatOk.l0 k a N l) (Evt.bind (g := fun t k => spec_LatOk.j2 k a (decide (rd l a ≥ t)) N l) (power_ev h.n1 h.n2) (hj _)) (hj true) e1
      show Evt _ (if ((bt l a a && !decide (rd l a ≥ 2 ^ N.toNat)) && q1 l N a) = true then r else false)
      cases hc : bt l a a <;> cases hd : decide (rd l a ≥ 2 ^ N.toNat) <;> rw [hc, hd] at s <;> simpa using s
  have e1 : ∀ k, spec_LatOk.f k N l = spec_LatOk.j0 k false N l := fun k => by
    simp only [spec_LatOk.f]
    rw [if_neg (by omega), if_neg (by omega), h.len]
    simp
  refine Evt.congr ?_ e1
  unfold okS
  have s : Evt (fun k => spec_LatOk.j0 k false N l) _ := Evt.step hW fun k => by simp only [spec_LatOk.j0, Bool.false_eq_true, if_false]
  cases hx : allB (fun a => (bt l a a && !decide (rd l a ≥ 2 ^ N.toNat)) && q1 l N a) N.toNat 0 <;> rw [hx] at s <;> simpa using s
/-- Both say the same of every lattice, and true only of one whose shape is right. -/
theorem both_ok (N : Int) (l : List Int) (hb : ∀ x ∈ l, 0 ≤ x ∧ x ≤ 18446744073709551615) :
    ∃ r, Evt (fun k => spec_LatOk.f k N l) r ∧ Evt (fun k => impl_isLat.f k N l) r ∧ (r = true → Lab N l ∧ okI l N = true) := by
  by_cases h : (1 ≤ N ∧ N ≤ 16) ∧ (l.length : Int) = N
  · have L : Lab N l := ⟨h.1.1, h.1.2, h.2, hb⟩
    exact ⟨okI l N, (okS_eq L) ▸ spec_ok L, impl_ok L, fun hr => ⟨L, hr⟩⟩
  · refine ⟨false, ?_, ?_, fun hr => by cases hr⟩
    · refine Evt.congr (g := fun k => spec_LatOk.j0 k true N l) (Evt.done fun k => by simp only [spec_LatOk.j0, if_true]) fun k => ?_
      simp only [spec_LatOk.f]
      by_cases c1 : N < 1
      · rw [if_pos c1]
      · rw [if_neg c1]
        by_cases c2 : N > 16
        · rw [if_pos c2]
        · rw [if_neg c2]
          have : ((l.length : Int) != N) = true := by simp only [bne_iff_ne, ne_eq]; omega
          rw [this]
    · refine Evt.congr (g := fun k => impl_isLat.j0 k true N l) (Evt.done fun k => by simp only [impl_isLat.j0, if_true]) fun k => ?_
      simp only [impl_isLat.f, impl_in.f]
      by_cases c1 : 1 ≤ N
      · rw [if_pos c1]
        by_cases c2 : N ≤ 16
        · rw [decide_eq_true c2]
          have : ((l.length : Int) != N) = true := by simp only [bne_iff_ne, ne_eq]; omega
          rw [this]
          rfl
        · rw [decide_eq_false c2]
          rfl
      · rw [if_neg c1]
        rfl
/-- A row of truths as a number, the first the least. -/
def val : List Bool → Nat
  | [] => 0
  | c :: t => c.toNat + 2 * val t
theorem val_bit : ∀ (l : List Bool) (i : Nat), (val l).testBit i = l.getD i false
  | [], i => by simp [val]
  | c :: t, 0 => by
    rw [Nat.testBit_zero]
    simp only [val, List.getD_cons_zero]
    cases c
    · exact decide_eq_false (by simp only [Bool.toNat_false]; omega)
    · exact decide_eq_true (by simp only [Bool.toNat_true]; omega)
  | c :: t, i + 1 => by
    rw [Nat.testBit_succ]
    have e : val (c :: t) / 2 = val t := by
      simp only [val]
      have : c.toNat ≤ 1 := by cases c <;> decide
      omega
    rw [e, val_bit t i, List.getD_cons_succ]
theorem val_lt : ∀ l : List Bool, val l < 2 ^ l.length
  | [] => by decide
  | c :: t => by
    have h := val_lt t
    simp only [val, List.length_cons, Nat.pow_succ]
    have : c.toNat ≤ 1 := by cases c <;> decide
    omega
theorem val_set (l : List Bool) (i : Nat) (h : i < l.length) : val (l.set i true) = val l ||| 2 ^ i := by
  refine Nat.eq_of_testBit_eq fun j => ?_
  rw [val_bit, Nat.testBit_or, val_bit, Nat.testBit_two_pow]
  simp only [List.getD_eq_getElem?_getD, List.getElem?_set]
  by_cases c : i = j
  · subst c; simp [h]
  · simp [c]
theorem val_or (r s : List Bool) (h : r.length = s.length) : val (List.zipWith (· || ·) r s) = val r ||| val s := by
  refine Nat.eq_of_testBit_eq fun j => ?_
  rw [val_bit, Nat.testBit_or, val_bit, val_bit]
  simp only [List.getD_eq_getElem?_getD, List.getElem?_zipWith]
  by_cases c : j < r.length
  · rw [List.getElem?_eq_getElem c, List.getElem?_eq_getElem (show j < s.length by omega)]; rfl
  · rw [List.getElem?_eq_none (by omega), List.getElem?_eq_none (by omega)]; rfl
theorem val_append (l : List Bool) (c : Bool) : val (l ++ [c]) = val l + (if c = true then 2 ^ l.length else 0) := by
  induction l with
  | nil => cases c <;> rfl
  | cons d t ih =>
    simp only [List.cons_append, val, ih, List.length_cons, Nat.pow_succ]
    cases c
    · simp
    · simp only [if_true]; omega
theorem val_false (n : Nat) : val (List.replicate n false) = 0 := by
  refine Nat.eq_of_testBit_eq fun j => ?_
  rw [val_bit, Nat.zero_testBit, List.getD_eq_getElem?_getD, List.getElem?_replicate]
  split <;> rfl
theorem or_nat (x y : Nat) (hx : x < 18446744073709551616) (hy : y < 18446744073709551616) : Go.bits .or .u64 (x : Int) (y : Int) = ((x ||| y : Nat) : Int) := by
  have hlt : x ||| y < 2 ^ 64 := Nat.or_lt_two_pow (by omega) (by omega)
  have e1 : (BitVec.ofInt 64 (x : Int)).toNat = x := by simp; omega
  have e2 : (BitVec.ofInt 64 (y : Int)).toNat = y := by simp; omega
  have e3 : ((BitVec.ofInt 64 (x : Int)) ||| (BitVec.ofInt 64 (y : Int))).toNat = x ||| y := by rw [BitVec.toNat_or, e1, e2]
  unfold Go.bits
  refine (congrArg (fun z : Nat => IntKind.u64.wrap (z : Int)) e3).trans ?_
  show IntKind.u64.wrap ((x ||| y : Nat) : Int) = _
  rw [wu64]
  omega
theorem bt_nat (v b : Nat) (hv : v < 18446744073709551616) (hb : b < 64) : ((Go.bits .and .u64 (shr .u64 (v : Int) (b : Int)) 1) == 1) = v.testBit b := by
  have es : shr .u64 (v : Int) (b : Int) = ((v / 2 ^ b : Nat) : Int) := by
    unfold shr
    rw [Int.toNat_natCast]
    simp only [IntKind.bits]
    rw [Nat.min_eq_left (by omega)]
    simp
  have hz : v / 2 ^ b < 18446744073709551616 := Nat.lt_of_le_of_lt (Nat.div_le_self _ _) hv
  rw [es, Nat.testBit_eq_decide_div_mod_eq]
  generalize v / 2 ^ b = z at hz
  have e1 : (BitVec.ofInt 64 (z : Int)).toNat = z := by simp; omega
  have e2 : (BitVec.ofInt 64 (1 : Int)).toNat = 1 := by decide +kernel
  have e3 : ((BitVec.ofInt 64 (z : Int)) &&& (BitVec.ofInt 64 (1 : Int))).toNat = z % 2 := by rw [BitVec.toNat_and, e1, e2, Nat.and_one_is_mod]
  have e4 : Go.bits .and .u64 (z : Int) 1 = ((z % 2 : Nat) : Int) := by
    unfold Go.bits
    refine (congrArg (fun y : Nat => IntKind.u64.wrap (y : Int)) e3).trans ?_
    show IntKind.u64.wrap ((z % 2 : Nat) : Int) = _
    rw [wu64]
    omega
  rw [e4]
  by_cases c : z % 2 = 1
  · rw [decide_eq_true c, c]; rfl
  · rw [decide_eq_false c, show z % 2 = 0 by omega]; rfl
theorem shl_nat (b : Nat) (hb : b < 64) : shl .u64 1 (b : Int) = ((2 ^ b : Nat) : Int) := by
  unfold shl
  rw [Int.toNat_natCast]
  simp only [IntKind.bits]
  rw [Nat.min_eq_left (by omega), Int.one_mul, wu64]
  have h : 2 ^ b < 2 ^ 64 := Nat.pow_lt_pow_right (by decide) hb
  have e : ((2 : Int) ^ b) = ((2 ^ b : Nat) : Int) := by simp
  have h' : 2 ^ b < 18446744073709551616 := h
  rw [e]
  generalize (2 ^ b : Nat) = z at h' ⊢
  omega
def bitr (n i : Nat) : List Bool := (List.replicate n false).set i true
/-- A matrix of truths: n rows of n. -/
def Sq (n : Nat) (m : List (List Bool)) : Prop := m.length = n ∧ ∀ r ∈ m, r.length = n
def nums (m : List (List Bool)) : List Int := m.map fun r => (val r : Int)
def rowAt (m : List (List Bool)) (a : Nat) : List Bool := m.getD a []
theorem rowAt_len {n : Nat} {m : List (List Bool)} (h : Sq n m) (a : Nat) (ha : a < n) : (rowAt m a).length = n := by
  unfold rowAt
  have : a < m.length := by rw [h.1]; exact ha
  rw [List.getD_eq_getElem?_getD, List.getElem?_eq_getElem this]
  exact h.2 _ (List.getElem_mem _)
theorem rowAt_set (m : List (List Bool)) (a b : Nat) (r : List Bool) (ha : a < m.length) : rowAt (m.set a r) b = if a = b then r else rowAt m b := by
  unfold rowAt
  simp only [List.getD_eq_getElem?_getD, List.getElem?_set]
  by_cases c : a = b
  · subst c; simp [ha]
  · simp [c]
theorem Sq_set {n : Nat} {m : List (List Bool)} (h : Sq n m) (a : Nat) (r : List Bool) (hr : r.length = n) : Sq n (m.set a r) := by
  refine ⟨by rw [List.length_set]; exact h.1, fun x hx => ?_⟩
  rcases List.mem_or_eq_of_mem_set hx with g | g
  · exact h.2 x g
  · rw [g]; exact hr
theorem nums_len {n : Nat} {m : List (List Bool)} (h : Sq n m) : (nums m).length = n := by simp [nums, h.1]
theorem nums_set (m : List (List Bool)) (a : Nat) (r : List Bool) : nums (m.set a r) = (nums m).set a (val r : Int) := by
  unfold nums
  rw [List.map_set]
theorem rd_nums {n : Nat} {m : List (List Bool)} (h : Sq n m) (a : Nat) (ha : a < n) : rd (nums m) (a : Int) = (val (rowAt m a) : Int) := by
  have h2 : a < m.length := by rw [h.1]; exact ha
  unfold rd nums rowAt
  rw [Int.toNat_natCast]
  simp [List.getD_eq_getElem?_getD, h2]
theorem rd_row (m : List (List Bool)) (a : Nat) : rd_L5 m (a : Int) = rowAt m a := by
  unfold rd_L5 rowAt
  rw [Int.toNat_natCast]
theorem rdOf_row (r : List Bool) (b : Nat) : rdOf false r (b : Int) = r.getD b false := by
  unfold rdOf
  rw [Int.toNat_natCast]
theorem val_small {n : Nat} (hn : n ≤ 16) (r : List Bool) (hr : r.length = n) : val r < 65536 := by
  have h := val_lt r
  rw [hr] at h
  exact Nat.lt_of_lt_of_le h (Nat.pow_le_pow_right (by decide) hn)
/-- The first matrix: each label below itself. -/
def mat0 (n : Nat) : List (List Bool) := (List.range n).map (bitr n)
theorem mat0_sq (n : Nat) : Sq n (mat0 n) := by
  refine ⟨by simp [mat0], fun r hr => ?_⟩
  unfold mat0 at hr
  obtain ⟨i, _, rfl⟩ := List.mem_map.mp hr
  simp [bitr]
theorem nums0 (n : Nat) : nums (mat0 n) = (List.range n).map fun i => ((2 ^ i : Nat) : Int) := by
  unfold nums mat0
  rw [List.map_map]
  refine List.map_congr_left fun i hi => ?_
  have hi' : i < n := List.mem_range.mp hi
  show (val (bitr n i) : Int) = _
  unfold bitr
  rw [val_set _ i (by simpa using hi'), val_false, Nat.zero_or]
theorem spec_fill {α : Type} (n : Nat) (hn : n ≤ 16) (es : List S89) (r : Int × List Int × Bool) (hr : Evt (fun k => spec_LatOf.l1 k (n : Int) es (mat0 n) 0) r) :
    ∀ (m i : Nat) (s : List (List Bool)), i + m = n → s.length = n → s.take i = ((List.range n).take i).map (bitr n) → Evt (fun k => spec_LatOf.l0 k (n : Int) es s (i : Int)) r := by
  intro m
  induction m with
  | zero =>
    intro i s hi hl ht
    obtain rfl : i = n := by omega
    have e : s = mat0 i := by
      have := copied_end (bitr i) (List.range i) s (by simpa using hl) (by simpa using ht)
      exact this
    rw [e]
    exact Evt.step hr fun k => by
      simp only [spec_LatOf.l0]
      rw [if_neg (by omega)]
  | succ m ih =>
    intro i s hi hl ht
    have hi' : i < (List.range n).length := by simp; omega
    obtain ⟨a1, a2⟩ := copied_step (bitr n) (List.range n) s i hi' (by simpa using hl) ht
    rw [List.getElem_range] at a1 a2
    refine Evt.step (ih (i + 1) (s.set i (bitr n i)) (by omega) (by simpa using a1) a2) fun k => ?_
    have hin : i < s.length := by omega
    have er : rd_L5 (s.set i (List.replicate n false)) (i : Int) = List.replicate n false := by
      rw [rd_row, rowAt_set _ _ _ _ hin, if_pos rfl]
    simp only [spec_LatOf.l0, Int.toNat_natCast, Option.bind_some, er, List.length_replicate, List.set_set]
    rw [if_pos (by omega), if_pos (by omega), if_pos (by omega), if_pos (by omega), if_pos (by omega), if_pos (by omega), w64 (by omega) (by omega)]
    rfl
theorem impl_fill (n : Nat) (hn : n ≤ 16) (es : List S89) (r : Int × List Int × Bool) (hr : Evt (fun k => impl_LatOf.l1 k (n : Int) es (es.length : Int) 0 (n : Int) (nums (mat0 n))) r) :
    ∀ (m i : Nat) (s : List Int), i + m = n → s.length = n → s.take i = ((List.range n).take i).map (fun i => ((2 ^ i : Nat) : Int)) → Evt (fun k => impl_LatOf.l0 k (n : Int) es (n : Int) (i : Int) (n : Int) s) r := by
  intro m
  induction m with
  | zero =>
    intro i s hi hl ht
    obtain rfl : i = n := by omega
    have e : s = nums (mat0 i) := by
      rw [nums0]
      exact copied_end (fun i => ((2 ^ i : Nat) : Int)) (List.range i) s (by simpa using hl) (by simpa using ht)
    rw [e]
    exact Evt.step hr fun k => by
      simp only [impl_LatOf.l0]
      rw [if_neg (by omega)]
  | succ m ih =>
    intro i s hi hl ht
    have hi' : i < (List.range n).length := by simp; omega
    obtain ⟨a1, a2⟩ := copied_step (fun i => ((2 ^ i : Nat) : Int)) (List.range n) s i hi' (by simpa using hl) ht
    rw [List.getElem_range] at a1 a2
    refine Evt.step (ih (i + 1) (s.set i ((2 ^ i : Nat) : Int)) (by omega) (by simpa using a1) a2) fun k => ?_
    simp only [impl_LatOf.l0, Int.toNat_natCast]
    rw [if_pos (by omega), if_pos (by omega), if_pos (by omega), w64 (by omega) (by omega), shl_nat i (by omega)]
    rfl
/-- An edge laid into a matrix. -/
def edge (m : List (List Bool)) (e : S89) : List (List Bool) := m.set e.f0.toNat ((rowAt m e.f0.toNat).set e.f1.toNat true)
def edgeOk (n : Nat) (e : S89) : Bool := (decide (0 ≤ e.f0) && decide (e.f0 < n)) && (decide (0 ≤ e.f1) && decide (e.f1 < n))
theorem edge_sq {n : Nat} {m : List (List Bool)} (h : Sq n m) (e : S89) (he : edgeOk n e = true) : Sq n (edge m e) := by
  unfold edgeOk at he
  simp only [Bool.and_eq_true, decide_eq_true_eq] at he
  exact Sq_set h _ _ (by rw [List.length_set]; exact rowAt_len h _ (by omega))
theorem drop_rdE (l : List S89) (i : Nat) (hi : i < l.length) : l.drop i = rd_T89 l (i : Int) :: l.drop (i + 1) := by
  have e : rd_T89 l (i : Int) = l[i] := getD_nat l _ i hi
  rw [e]
  exact List.drop_eq_getElem_cons hi
theorem spec_lay {n : Nat} (h1 : 1 ≤ n) (hn : n ≤ 16) (es : List S89) (hl : es.length ≤ 100) (F : List (List Bool) → Int × List Int × Bool) (hF : ∀ m, Sq n m → Evt (fun k => spec_LatOf.l2 k (n : Int) m 0) (F m)) :
    ∀ (d i : Nat) (m : List (List Bool)), i + d = es.length → Sq n m → Evt (fun k => spec_LatOf.l1 k (n : Int) es m (i : Int)) (if (es.drop i).all (edgeOk n) = true then F ((es.drop i).foldl edge m) else (0, [], false)) := by
  intro d
  induction d with
  | zero =>
    intro i m hi hm
    have e : es.drop i = [] := List.drop_eq_nil_of_le (by omega)
    rw [e, if_pos (show ([] : List S89).all (edgeOk n) = true from rfl)]
    exact Evt.step (hF m hm) fun k => by
      simp only [spec_LatOf.l1]
      rw [if_neg (by omega)]
  | succ d ih =>
    intro i m hi hm
    have hi' : i < es.length := by omega
    rw [drop_rdE es i hi']
    generalize hx : rd_T89 es (i : Int) = e
    by_cases he : edgeOk n e = true
    · have s := ih (i + 1) (edge m e) (by omega) (edge_sq hm e he)
      rw [show (e :: es.drop (i + 1)).all (edgeOk n) = (es.drop (i + 1)).all (edgeOk n) by simp only [List.all_cons, he, Bool.true_and], List.foldl_cons]
      refine Evt.step s fun k => ?_
      unfold edgeOk at he
      simp only [Bool.and_eq_true, decide_eq_true_eq] at he
      have ef0 : e.f0 = ((e.f0.toNat : Nat) : Int) := by omega
      have ef1 : e.f1 = ((e.f1.toNat : Nat) : Int) := by omega
      have er : rd_L5 m e.f0 = rowAt m e.f0.toNat := by
        conv => lhs; rw [ef0]
        exact rd_row m _
      simp only [spec_LatOf.l1, hx, er, rowAt_len hm e.f0.toNat (by omega), hm.1]
      rw [if_pos (by omega), if_pos (by omega), if_neg (by omega), if_neg (by omega), if_neg (by omega), if_neg (by omega), if_pos (by omega), if_pos (by omega), if_pos (by omega), if_pos (by omega), w64 (by omega) (by omega)]
      rfl
    · rw [show (e :: es.drop (i + 1)).all (edgeOk n) = false by simp only [List.all_cons, Bool.eq_false_iff.mpr he, Bool.false_and], if_neg (by decide)]
      refine Evt.done fun k => ?_
      simp only [spec_LatOf.l1, hx]
      rw [if_pos (by omega), if_pos (by omega)]
      by_cases c1 : e.f0 < 0
      · rw [if_pos c1]
      · rw [if_neg c1]
        by_cases c2 : e.f0 ≥ (n : Int)
        · rw [if_pos c2]
        · rw [if_neg c2]
          by_cases c3 : e.f1 < 0
          · rw [if_pos c3]
          · rw [if_neg c3]
            by_cases c4 : e.f1 ≥ (n : Int)
            · rw [if_pos c4]
            · exfalso
              apply he
              unfold edgeOk
              rw [decide_eq_true (show 0 ≤ e.f0 by omega), decide_eq_true (show e.f0 < n by omega), decide_eq_true (show 0 ≤ e.f1 by omega), decide_eq_true (show e.f1 < n by omega)]
              rfl
theorem has_eq {n : Nat} (h1 : 1 ≤ n) (hn : n ≤ 16) (u : List Int) (a : Int) : impl_Lat_has.f (n : Int) u a = some (decide (0 ≤ a) && decide (a < n)) := by
  unfold impl_Lat_has.f impl_in.f
  rw [w64 (by omega) (by omega)]
  by_cases c : 0 ≤ a
  · rw [if_pos c, decide_eq_true c]
    simp only [Option.bind_some, Bool.true_and]
    exact congrArg some (decide_eq_decide.2 (by omega))
  · rw [if_neg c, decide_eq_false c]; rfl
theorem impl_lay {n : Nat} (h1 : 1 ≤ n) (hn : n ≤ 16) (es : List S89) (hl : es.length ≤ 100) (F : List (List Bool) → Int × List Int × Bool) (hF : ∀ m, Sq n m → Evt (fun k => impl_LatOf.l2 k (n : Int) (n : Int) 0 (n : Int) (nums m)) (F m)) :
    ∀ (d i : Nat) (m : List (List Bool)), i + d = es.length → Sq n m → Evt (fun k => impl_LatOf.l1 k (n : Int) es (es.length : Int) (i : Int) (n : Int) (nums m)) (if (es.drop i).all (edgeOk n) = true then F ((es.drop i).foldl edge m) else (0, [], false)) := by
  intro d
  induction d with
  | zero =>
    intro i m hi hm
    have e : es.drop i = [] := List.drop_eq_nil_of_le (by omega)
    rw [e, if_pos (show ([] : List S89).all (edgeOk n) = true from rfl)]
    exact Evt.step (hF m hm) fun k => by
      simp only [impl_LatOf.l1]
      rw [if_neg (by omega)]
  | succ d ih =>
    intro i m hi hm
    have hi' : i < es.length := by omega
    rw [drop_rdE es i hi']
    generalize hx : rd_T89 es (i : Int) = e
    by_cases he : edgeOk n e = true
    · have s := ih (i + 1) (edge m e) (by omega) (edge_sq hm e he)
      rw [show (e :: es.drop (i + 1)).all (edgeOk n) = (es.drop (i + 1)).all (edgeOk n) by simp only [List.all_cons, he, Bool.true_and], List.foldl_cons]
      refine Evt.step s fun k => ?_
      unfold edgeOk at he
      have he2 := he
      simp only [Bool.and_eq_true, decide_eq_true_eq] at he
      have b0 : (decide (0 ≤ e.f0) && decide (e.f0 < n)) = true := (Bool.and_eq_true _ _ ▸ he2).1
      have b1 : (decide (0 ≤ e.f1) && decide (e.f1 < n)) = true := (Bool.and_eq_true _ _ ▸ he2).2
      have ef0 : e.f0 = ((e.f0.toNat : Nat) : Int) := by omega
      have ef1 : e.f1 = ((e.f1.toNat : Nat) : Int) := by omega
      have hlen := rowAt_len hm e.f0.toNat (by omega)
      have er : rd (nums m) e.f0 = (val (rowAt m e.f0.toNat) : Int) := by
        conv => lhs; rw [ef0]
        exact rd_nums hm _ (by omega)
      have es1 : shl .u64 1 e.f1 = ((2 ^ e.f1.toNat : Nat) : Int) := by
        conv => lhs; rw [ef1]
        exact shl_nat _ (by omega)
      have hv := val_small hn _ hlen
      have hp : 2 ^ e.f1.toNat < 18446744073709551616 := Nat.lt_of_le_of_lt (Nat.pow_le_pow_right (by decide) (show e.f1.toNat ≤ 16 by omega)) (by decide)
      have eo : Go.bits .or .u64 (rd (nums m) e.f0) (shl .u64 1 e.f1) = (val ((rowAt m e.f0.toNat).set e.f1.toNat true) : Int) := by
        rw [er, es1, or_nat _ _ (by omega) hp, val_set _ _ (by omega)]
      simp only [impl_LatOf.l1, hx, has_eq h1 hn, b0, b1, eo, nums_len hm, Option.bind_some, if_true]
      rw [if_pos (by omega), if_pos (by omega), if_pos (by omega), if_pos (by omega), if_pos (by omega), if_pos (by omega), w64 (by omega) (by omega)]
      unfold edge
      rw [nums_set]
      rfl
    · rw [show (e :: es.drop (i + 1)).all (edgeOk n) = false by simp only [List.all_cons, Bool.eq_false_iff.mpr he, Bool.false_and], if_neg (by decide)]
      refine Evt.done fun k => ?_
      simp only [impl_LatOf.l1, hx, has_eq h1 hn, Option.bind_some]
      rw [if_pos (by omega), if_pos (by omega), if_pos (by omega)]
      unfold edgeOk at he
      cases g0 : (decide (0 ≤ e.f0) && decide (e.f0 < (n : Int))) with
      | false => rfl
      | true =>
        rw [g0, Bool.true_and] at he
        rw [Bool.eq_false_iff.mpr he]
        rfl
theorem mix_get (l1 l2 : List Bool) (b j : Nat) (h : b ≤ l1.length) : (l1.take b ++ l2.drop b)[j]? = if j < b then l1[j]? else l2[j]? := by
  rw [List.getElem?_append, List.length_take, Nat.min_eq_left h]
  by_cases c : j < b
  · rw [if_pos c, if_pos c, List.getElem?_take, if_pos c]
  · rw [if_neg c, if_neg c, List.getElem?_drop, show b + (j - b) = j by omega]
theorem mix_set (l1 l2 : List Bool) (b : Nat) (h1 : b < l1.length) (h2 : b < l2.length) : (l1.take b ++ l2.drop b).set b (l1.getD b false) = l1.take (b + 1) ++ l2.drop (b + 1) := by
  refine List.ext_getElem? fun j => ?_
  rw [List.getElem?_set, mix_get _ _ _ _ (by omega), mix_get _ _ _ _ (by omega)]
  have hl : (l1.take b ++ l2.drop b).length = l2.length := by rw [List.length_append, List.length_take, List.length_drop]; omega
  by_cases c : b = j
  · subst c
    rw [if_pos rfl, if_pos (by omega), if_pos (by omega), List.getD_eq_getElem?_getD, List.getElem?_eq_getElem h1]
    rfl
  · rw [if_neg c]
    by_cases d : j < b
    · rw [if_pos d, if_pos (by omega)]
    · rw [if_neg d, if_neg (by omega)]
def newrow (m : List (List Bool)) (c a : Nat) : List Bool := if (rowAt m a).getD c false = true then List.zipWith (· || ·) (rowAt m a) (rowAt m c) else rowAt m a
def rowop (c : Nat) (m : List (List Bool)) (a : Int) : List (List Bool) := m.set a.toNat (newrow m c a.toNat)
theorem newrow_len {n : Nat} {m : List (List Bool)} (h : Sq n m) (c a : Nat) (hc : c < n) (ha : a < n) : (newrow m c a).length = n := by
  unfold newrow
  split
  · rw [List.length_zipWith, rowAt_len h a ha, rowAt_len h c hc]; omega
  · exact rowAt_len h a ha
theorem newrow_get {n : Nat} {m : List (List Bool)} (h : Sq n m) (c a b : Nat) (hc : c < n) (ha : a < n) (hb : b < n) : (newrow m c a).getD b false = if (rowAt m a).getD c false = true then ((rowAt m a).getD b false || (rowAt m c).getD b false) else (rowAt m a).getD b false := by
  unfold newrow
  by_cases e : (rowAt m a).getD c false = true
  · rw [if_pos e, if_pos e]
    have h1 : b < (rowAt m a).length := by rw [rowAt_len h a ha]; exact hb
    have h2 : b < (rowAt m c).length := by rw [rowAt_len h c hc]; exact hb
    simp only [List.getD_eq_getElem?_getD, List.getElem?_zipWith, List.getElem?_eq_getElem h1, List.getElem?_eq_getElem h2]
    rfl
  · rw [if_neg e, if_neg e]
theorem rowop_sq {n : Nat} {m : List (List Bool)} (h : Sq n m) (c : Nat) (a : Int) (hc : c < n) (ha : 0 ≤ a ∧ a < (n : Int)) : Sq n (rowop c m a) := Sq_set h _ _ (newrow_len h c _ hc (by omega))
theorem set_rowAt (m : List (List Bool)) (a : Nat) (ha : a < m.length) : m.set a (rowAt m a) = m := by
  unfold rowAt
  rw [List.getD_eq_getElem?_getD, List.getElem?_eq_getElem ha]
  exact List.set_getElem_self ha
theorem spec_row {n : Nat} (hn : n ≤ 16) (m : List (List Bool)) (h : Sq n m) (c a : Nat) (hc : c < n) (ha : a < n) (r : Int × List Int × Bool)
    (hr : Evt (fun k => spec_LatOf.l3 k (n : Int) (m.set a (newrow m c a)) (c : Int) ((a + 1 : Nat) : Int)) r) :
    ∀ (d b : Nat), b + d = n → Evt (fun k => spec_LatOf.l4 k (n : Int) (m.set a ((newrow m c a).take b ++ (rowAt m a).drop b)) (c : Int) (a : Int) (b : Int)) r := by
  have ham : a < m.length := by rw [h.1]; exact ha
  have hold := rowAt_len h a ha
  have hmc := rowAt_len h c hc
  have hnew := newrow_len h c a hc ha
  intro d
  induction d with
  | zero =>
    intro b hb
    obtain rfl : b = n := by omega
    rw [show (newrow m c a).take b ++ (rowAt m a).drop b = newrow m c a by rw [List.take_of_length_le (by omega), List.drop_eq_nil_of_le (by omega), List.append_nil]]
    refine Evt.step hr fun k => ?_
    simp only [spec_LatOf.l4]
    rw [if_neg (by omega), w64 (by omega) (by omega)]
    rfl
  | succ d ih =>
    intro b hb
    have hbn : b < n := by omega
    refine Evt.step (ih (b + 1) (by omega)) fun k => ?_
    have hs := mix_set (newrow m c a) (rowAt m a) b (by omega) (by omega)
    have hg : ∀ j, ((newrow m c a).take b ++ (rowAt m a).drop b).getD j false = if j < b then (newrow m c a).getD j false else (rowAt m a).getD j false := fun j => by
      simp only [List.getD_eq_getElem?_getD]
      rw [mix_get _ _ _ _ (by omega)]
      by_cases e : j < b
      · rw [if_pos e, if_pos e]
      · rw [if_neg e, if_neg e]
    have hlen : ((newrow m c a).take b ++ (rowAt m a).drop b).length = n := by rw [List.length_append, List.length_take, List.length_drop]; omega
    have hgb := hg b
    rw [if_neg (by omega)] at hgb
    have hgc : ((newrow m c a).take b ++ (rowAt m a).drop b).getD c false = (rowAt m a).getD c false := by
      rw [hg c]
      by_cases e : c < b
      · rw [if_pos e, newrow_get h c a c hc ha hc]
        cases (rowAt m a).getD c false <;> rfl
      · rw [if_neg e]
    have hrow : ∀ x, rd_L5 (m.set a x) (a : Int) = x := fun x => by rw [rd_row, rowAt_set _ _ _ _ ham, if_pos rfl]
    have hcb : rdOf false (rd_L5 (m.set a ((newrow m c a).take b ++ (rowAt m a).drop b)) (c : Int)) (b : Int) = (rowAt m c).getD b false := by
      rw [rdOf_row, rd_row, rowAt_set _ _ _ _ ham]
      by_cases e : a = c
      · subst e; rw [if_pos rfl, hgb]
      · rw [if_neg e]
    have hcl : (rd_L5 (m.set a ((newrow m c a).take b ++ (rowAt m a).drop b)) (c : Int)).length = n := by
      rw [rd_row, rowAt_set _ _ _ _ ham]
      by_cases e : a = c
      · rw [if_pos e]; exact hlen
      · rw [if_neg e]; exact hmc
    have hnb := newrow_get h c a b hc ha hbn
    rw [← hs]
    generalize (newrow m c a).take b ++ (rowAt m a).drop b = x at *
    simp only [spec_LatOf.l4, hrow, rdOf_row, hgb, hgc, hlen, List.length_set, h.1, List.set_set, Int.toNat_natCast]
    rw [rdOf_row] at hcb
    rw [hcl, hcb, hnb]
    simp only [if_pos (show (b : Int) < (n : Int) by omega), if_pos (show (0 : Int) ≤ (a : Int) by omega), if_pos (show (a : Int) < (n : Int) by omega), if_pos (show (0 : Int) ≤ (b : Int) by omega), if_pos (show (0 : Int) ≤ (c : Int) by omega), if_pos (show (c : Int) < (n : Int) by omega)]
    rw [w64 (show -9223372036854775808 ≤ (b : Int) + 1 by omega) (by omega)]
    cases (rowAt m a).getD b false <;> cases (rowAt m a).getD c false <;> cases (rowAt m c).getD b false <;> rfl
def closeC (n : Nat) (m : List (List Bool)) (c : Int) : List (List Bool) := foldB (rowop c.toNat) n 0 m
def closeAll (n : Nat) (m : List (List Bool)) : List (List Bool) := foldB (closeC n) n 0 m
theorem closeC_sq {n : Nat} {m : List (List Bool)} (h : Sq n m) (c : Int) (hc : 0 ≤ c ∧ c < (n : Int)) : Sq n (closeC n m c) :=
  foldB_inv (N := (n : Int)) (fun _ m => Sq n m) (fun s a hs a0 ha => rowop_sq hs c.toNat a (by omega) ⟨a0, ha⟩) n m 0 h (Int.le_refl 0) (by omega)
theorem closeAll_sq {n : Nat} {m : List (List Bool)} (h : Sq n m) : Sq n (closeAll n m) :=
  foldB_inv (N := (n : Int)) (fun _ m => Sq n m) (fun s c hs c0 hc => closeC_sq hs c ⟨c0, hc⟩) n m 0 h (Int.le_refl 0) (by omega)
theorem spec_close {n : Nat} (hn : n ≤ 16) (m : List (List Bool)) (h : Sq n m) (r : Int × List Int × Bool) (hr : Evt (fun k => spec_LatOf.l5 k (n : Int) (closeAll n m) 0 (n : Int) []) r) : Evt (fun k => spec_LatOf.l2 k (n : Int) m 0) r := by
  refine Evt.run (L := fun m c k => spec_LatOf.l2 k (n : Int) m c) (g := closeC n) (N := (n : Int)) (fun _ m => Sq n m) (fun s c hs c0 hc => closeC_sq hs c ⟨c0, hc⟩) ?_ n m 0 h (Int.le_refl 0) (by omega) ?_
  · intro s c hs c0 hc hr'
    obtain ⟨c, rfl⟩ : ∃ x : Nat, c = (x : Int) := ⟨c.toNat, by omega⟩
    refine Evt.step (g := fun k => spec_LatOf.l3 k (n : Int) s (c : Int) 0) ?_ fun k => by
      simp only [spec_LatOf.l2]
      rw [if_pos hc]
    refine Evt.run (L := fun m a k => spec_LatOf.l3 k (n : Int) m (c : Int) a) (g := rowop c) (N := (n : Int)) (fun _ m => Sq n m) (fun s a hs a0 ha => rowop_sq hs c a (by omega) ⟨a0, ha⟩) ?_ n s 0 hs (Int.le_refl 0) (by omega) ?_
    · intro s' a hs' a0 ha hr''
      obtain ⟨a, rfl⟩ : ∃ x : Nat, a = (x : Int) := ⟨a.toNat, by omega⟩
      have e0 := spec_row hn s' hs' c a (by omega) (by omega) r (by
        have e : rowop c s' (a : Int) = s'.set a (newrow s' c a) := by unfold rowop; rw [Int.toNat_natCast]
        rw [e] at hr''
        exact hr'') n 0 (by omega)
      rw [List.take_zero, List.drop_zero, List.nil_append, set_rowAt _ _ (by rw [hs'.1]; omega)] at e0
      refine Evt.step e0 fun k => ?_
      simp only [spec_LatOf.l3]
      rw [if_pos ha]
      rfl
    · have e : foldB (rowop c) n 0 s = closeC n s (c : Int) := by unfold closeC; rw [Int.toNat_natCast]
      rw [e]
      refine Evt.step hr' fun k => ?_
      simp only [spec_LatOf.l3]
      rw [if_neg (by omega), w64 (by omega) (by omega)]
  · refine Evt.step hr fun k => ?_
    simp only [spec_LatOf.l2]
    rw [if_neg (by omega)]
    rfl
theorem impl_close {n : Nat} (hn : n ≤ 16) (m : List (List Bool)) (h : Sq n m) (r : Int × List Int × Bool)
    (hr : Evt (fun k => (impl_isLat.f k (n : Int) (nums (closeAll n m))).bind fun t234 => (if t234 = true then (some ((n : Int), nums (closeAll n m), true)) else (some (0, ([] : List Int), false)))) r) : Evt (fun k => impl_LatOf.l2 k (n : Int) (n : Int) 0 (n : Int) (nums m)) r := by
  refine Evt.run (L := fun m c k => impl_LatOf.l2 k (n : Int) (n : Int) c (n : Int) (nums m)) (g := closeC n) (N := (n : Int)) (fun _ m => Sq n m) (fun s c hs c0 hc => closeC_sq hs c ⟨c0, hc⟩) ?_ n m 0 h (Int.le_refl 0) (by omega) ?_
  · intro s c hs c0 hc hr'
    obtain ⟨c, rfl⟩ : ∃ x : Nat, c = (x : Int) := ⟨c.toNat, by omega⟩
    refine Evt.step (g := fun k => impl_LatOf.l3 k (n : Int) (c : Int) (n : Int) (c : Int) (n : Int) 0 (n : Int) (nums s)) ?_ fun k => by
      simp only [impl_LatOf.l2]
      rw [if_pos hc]
    refine Evt.run (L := fun m a k => impl_LatOf.l3 k (n : Int) (c : Int) (n : Int) (c : Int) (n : Int) a (n : Int) (nums m)) (g := rowop c) (N := (n : Int)) (fun _ m => Sq n m) (fun s a hs a0 ha => rowop_sq hs c a (by omega) ⟨a0, ha⟩) ?_ n s 0 hs (Int.le_refl 0) (by omega) ?_
    · intro s' a hs' a0 ha hr''
      obtain ⟨a, rfl⟩ : ∃ x : Nat, a = (x : Int) := ⟨a.toNat, by omega⟩
      have e : rowop c s' (a : Int) = s'.set a (newrow s' c a) := by unfold rowop; rw [Int.toNat_natCast]
      rw [e] at hr''
      have hla := rowAt_len hs' a (by omega)
      have hlc := rowAt_len hs' c (by omega)
      have va := val_small hn _ hla
      have vc := val_small hn _ hlc
      have hle : impl_Lat_le.f (n : Int) (nums s') (a : Int) (c : Int) = some ((rowAt s' a).getD c false) := by
        unfold impl_Lat_le.f
        rw [nums_len hs', if_pos (by omega), if_pos (by omega), if_pos (by omega), rd_nums hs' a (by omega), bt_nat _ c (by omega) (by omega), val_bit]
      refine Evt.step hr'' fun k => ?_
      simp only [impl_LatOf.l3]
      rw [if_pos ha, hle, w64 (by omega) (by omega)]
      simp only [Option.bind_some]
      by_cases g : (rowAt s' a).getD c false = true
      · have eo : Go.bits .or .u64 (rd (nums s') (a : Int)) (rd (nums s') (c : Int)) = (val (newrow s' c a) : Int) := by
          unfold newrow
          rw [if_pos g, rd_nums hs' a (by omega), rd_nums hs' c (by omega), or_nat _ _ (by omega) (by omega), val_or _ _ (by omega)]
        rw [if_pos g, if_pos a0, nums_len hs', if_pos ha, if_pos c0, if_pos hc, eo, nums_set, Int.toNat_natCast]
      · have en : newrow s' c a = rowAt s' a := by unfold newrow; exact if_neg g
        rw [if_neg g, en, set_rowAt _ _ (by rw [hs'.1]; omega)]
    · have e : foldB (rowop c) n 0 s = closeC n s (c : Int) := by unfold closeC; rw [Int.toNat_natCast]
      rw [e]
      refine Evt.step hr' fun k => ?_
      simp only [impl_LatOf.l3]
      rw [if_neg (by omega), w64 (by omega) (by omega)]
  · refine Evt.step hr fun k => ?_
    simp only [impl_LatOf.l2]
    rw [if_neg (by omega)]
    rfl
theorem pow_ev (b : Nat) (hb : b ≤ 16) : Evt (fun k => spec_l01Power.f k (b : Int)) ((2 ^ b : Nat) : Int) := by
  have hp : 2 ^ b < 18446744073709551616 := Nat.lt_of_le_of_lt (Nat.pow_le_pow_right (by decide) hb) (by decide)
  have e : ((2 : Int) ^ b) = ((2 ^ b : Nat) : Int) := by simp
  have := power_go b 1 (by omega) (by decide) (by rw [Int.one_mul, e]; omega)
  rw [Int.one_mul, e] at this
  exact this
theorem spec_conv {n : Nat} (hn : n ≤ 16) (m : List (List Bool)) (h : Sq n m) (r : Int × List Int × Bool)
    (hr : Evt (fun k => (spec_LatOk.f k (n : Int) (nums m)).bind fun t180 => (if t180 = true then (some ((n : Int), nums m, true)) else (some (0, ([] : List Int), false)))) r) :
    ∀ (d a : Nat), a + d = n → Evt (fun k => spec_LatOf.l5 k (n : Int) m (a : Int) (n : Int) ((nums m).take a)) r := by
  intro d
  induction d with
  | zero =>
    intro a ha
    obtain rfl : a = n := by omega
    rw [List.take_of_length_le (by rw [nums_len h]; omega)]
    refine Evt.step hr fun k => ?_
    simp only [spec_LatOf.l5]
    rw [if_neg (by omega)]
  | succ d ih =>
    intro a ha
    have hrow := rowAt_len h a (by omega)
    have hnext := ih (a + 1) (by omega)
    have et : (nums m).take (a + 1) = (nums m).take a ++ [(val (rowAt m a) : Int)] := by
      rw [List.take_succ_eq_append_getElem (by rw [nums_len h]; omega), ← rd_nums h a (by omega), rd_nat _ a (by rw [nums_len h]; omega)]
    rw [et] at hnext
    have inner : ∀ (e b : Nat), b + e = n → Evt (fun k => spec_LatOf.l6 k (n : Int) m (a : Int) (val ((rowAt m a).take b) : Int) (b : Int) (n : Int) ((nums m).take a)) r := by
      intro e
      induction e with
      | zero =>
        intro b hb
        obtain rfl : b = n := by omega
        rw [List.take_of_length_le (by omega)]
        refine Evt.step hnext fun k => ?_
        simp only [spec_LatOf.l6]
        rw [if_neg (by omega), if_pos (by rw [List.length_take, nums_len h]; omega), w64 (by omega) (by omega)]
        rfl
      | succ e ihe =>
        intro b hb
        have hbl : b < (rowAt m a).length := by omega
        have s := ihe (b + 1) (by omega)
        rw [List.take_succ_eq_append_getElem hbl, val_append, List.length_take, Nat.min_eq_left (by omega)] at s
        have eg : (rowAt m a).getD b false = (rowAt m a)[b] := by
          rw [List.getD_eq_getElem?_getD, List.getElem?_eq_getElem hbl]; rfl
        have e1 : ∀ k, spec_LatOf.l6 (k + 1) (n : Int) m (a : Int) (val ((rowAt m a).take b) : Int) (b : Int) (n : Int) ((nums m).take a) = if (rowAt m a)[b] = true then ((spec_l01Power.f k (b : Int)).bind fun t183 => (spec_LatOf.l6 k (n : Int) m (a : Int) (IntKind.u64.wrap ((val ((rowAt m a).take b) : Int) + t183)) ((b + 1 : Nat) : Int) (n : Int) ((nums m).take a))) else spec_LatOf.l6 k (n : Int) m (a : Int) (val ((rowAt m a).take b) : Int) ((b + 1 : Nat) : Int) (n : Int) ((nums m).take a) := fun k => by
          simp only [spec_LatOf.l6, rd_row, rdOf_row, hrow, eg, h.1]
          rw [if_pos (by omega), if_pos (by omega), if_pos (by omega), if_pos (by omega), if_pos (by omega), w64 (by omega) (by omega)]
          rfl
        by_cases g : (rowAt m a)[b] = true
        · rw [if_pos g] at s
          refine Evt.step (g := fun k => (spec_l01Power.f k (b : Int)).bind fun t183 => (spec_LatOf.l6 k (n : Int) m (a : Int) (IntKind.u64.wrap ((val ((rowAt m a).take b) : Int) + t183)) ((b + 1 : Nat) : Int) (n : Int) ((nums m).take a))) ?_ fun k => (e1 k).trans (if_pos g)
          refine Evt.bind (g := fun t183 k => (spec_LatOf.l6 k (n : Int) m (a : Int) (IntKind.u64.wrap ((val ((rowAt m a).take b) : Int) + t183)) ((b + 1 : Nat) : Int) (n : Int) ((nums m).take a))) (pow_ev b (by omega)) ?_
          have v1 := val_lt ((rowAt m a).take b)
          rw [List.length_take, Nat.min_eq_left (by omega)] at v1
          have v2 : 2 ^ b ≤ 65536 := Nat.pow_le_pow_right (by decide) (show b ≤ 16 by omega)
          have ew : IntKind.u64.wrap ((val ((rowAt m a).take b) : Int) + ((2 ^ b : Nat) : Int)) = ((val ((rowAt m a).take b) + 2 ^ b : Nat) : Int) := by
            generalize 2 ^ b = z at *
            rw [wu64]; omega
          show Evt (fun k => spec_LatOf.l6 k (n : Int) m (a : Int) (IntKind.u64.wrap ((val ((rowAt m a).take b) : Int) + ((2 ^ b : Nat) : Int))) ((b + 1 : Nat) : Int) (n : Int) ((nums m).take a)) r
          rw [ew]
          exact s
        · rw [if_neg g, Nat.add_zero] at s
          exact Evt.step s fun k => (e1 k).trans (if_neg g)
    have s := inner n 0 (by omega)
    rw [List.take_zero] at s
    refine Evt.step s fun k => ?_
    simp only [spec_LatOf.l5]
    rw [if_pos (by omega)]
    rfl
theorem toEdgeS_step (l : List S94) (ys : List S89) (i k : Nat) (hi : i < l.length) (hl : ys.length = l.length) (hb : l.length ≤ 1048576) :
    laws_toEdgeS.l0 (k + 1) l ys (i : Int) = laws_toEdgeS.l0 k l (ys.set i ((fun x : S94 => (⟨x.f0, x.f1⟩ : S89)) l[i])) ((i + 1 : Nat) : Int) := by
  have e : rd_T94 l (i : Int) = l[i] := getD_nat l _ i hi
  simp only [laws_toEdgeS.l0, laws_toEdge.f, Option.bind_some]
  rw [if_pos (by omega), if_pos (by omega), if_pos (by omega), e, w64 (by omega) (by omega)]
  simp
theorem toEdgeS_eq (l : List S94) (k : Nat) (hk : l.length < k) (hb : l.length ≤ 1048576) : laws_toEdgeS.f k l = some (l.map (fun x : S94 => (⟨x.f0, x.f1⟩ : S89))) := by
  unfold laws_toEdgeS.f
  rw [if_pos (by omega), if_pos (by simp; omega)]
  refine up_loop0 (fun k (ys : List S89) i => laws_toEdgeS.l0 k l ys (i : Int)) l.length (fun i ys => ys.length = l.length ∧ ys.take i = (l.take i).map (fun x : S94 => (⟨x.f0, x.f1⟩ : S89))) (fun r => r = some (l.map (fun x : S94 => (⟨x.f0, x.f1⟩ : S89)))) ?_ ?_ k _ ?_ hk
  · rintro k s i hi ⟨h1, h2⟩
    left
    obtain ⟨h3, h4⟩ := copied_step (fun x : S94 => (⟨x.f0, x.f1⟩ : S89)) l s i hi h1 h2
    exact ⟨_, ⟨h3, h4⟩, toEdgeS_step l s i k hi h1 hb⟩
  · rintro k s ⟨h1, h2⟩
    simp only [laws_toEdgeS.l0]
    rw [if_neg (by omega), copied_end _ l s h1 h2]
  · simp

theorem eqEdgeS_refl (l : List S89) (k : Nat) (hk : l.length < k) (hb : l.length ≤ 4611686018427387904) : laws_eqEdgeS.f k l l = some true := by
  unfold laws_eqEdgeS.f
  rw [if_pos rfl]
  refine up_loop0 (fun k (_ : Unit) i => laws_eqEdgeS.l0 k l l (i : Int)) l.length (fun _ _ => True) (fun r => r = some true) ?_ ?_ k () trivial hk
  · rintro k _ i hi _
    left
    refine ⟨(), trivial, ?_⟩
    simp only [laws_eqEdgeS.l0, laws_eqEdge.f, bne_self_eq_false, Bool.false_eq_true, if_true, if_false, Option.bind_some]
    rw [if_pos (by omega), if_pos (by omega), if_pos (by omega), w64 (by omega) (by omega)]
    simp
  · rintro k _ _
    simp only [laws_eqEdgeS.l0]
    rw [if_neg (by omega)]

def patEdge (a : Int) (n : Nat) : List S89 := (List.range n).map (fun j : Nat => (⟨(a + 2 * (j : Int)), (a + 2 * (j : Int)) + 1⟩ : S89))
theorem markEdgeS_step (xs : List S89) (z : Int) (i k : Nat) (hi : i < xs.length) (h0 : 0 ≤ z) (hz : z ≤ 1152921504606846976) (hl : xs.length ≤ 1152921504606846976) :
    laws_markEdgeS.l0 (k + 1) xs z (i : Int) = laws_markEdgeS.l0 k (xs.set i (⟨z, z + 1⟩ : S89)) (z + 2) ((i + 1 : Nat) : Int) := by
  have v1 : wrap64 (z + 1) = z + 1 := (w64 (by omega) (by omega)).trans (by omega)
  have v2 : wrap64 (z + 1 + 1) = z + 2 := (w64 (by omega) (by omega)).trans (by omega)
  have vi : wrap64 ((i : Int) + 1) = ((i + 1 : Nat) : Int) := (w64 (by omega) (by omega)).trans (by omega)
  simp only [laws_markEdgeS.l0, Option.bind_some]
  rw [if_pos (by omega), if_pos (by omega)]
  simp only [v1, v2, vi, rd_T89, Int.toNat_natCast, List.set_set, List.getD_eq_getElem?_getD, List.getElem?_set_self hi, Option.getD_some]
theorem markEdgeS_eq (l : List S89) (a : Int) (k : Nat) (hk : l.length < k) (h0 : 0 ≤ a) (ha : a ≤ 1000000000) (hb : l.length ≤ 4611686018427) : laws_markEdgeS.f k l a = some (a + 2 * l.length, patEdge a l.length) := by
  unfold laws_markEdgeS.f
  refine up_loop0 (fun k (s : List S89 × Int) i => laws_markEdgeS.l0 k s.1 s.2 (i : Int)) l.length (fun i s => s.1.length = l.length ∧ s.1.take i = ((List.range l.length).take i).map (fun j : Nat => (⟨(a + 2 * (j : Int)), (a + 2 * (j : Int)) + 1⟩ : S89)) ∧ s.2 = a + 2 * (i : Int)) (fun r => r = some (a + 2 * l.length, patEdge a l.length)) ?_ ?_ k (l, a) ?_ hk
  · rintro k ⟨xs, z⟩ i hi ⟨h1, h2, h3⟩
    simp only at h1 h2 h3
    left
    have hi' : i < (List.range l.length).length := by simpa using hi
    obtain ⟨h4, h5⟩ := copied_step (fun j : Nat => (⟨(a + 2 * (j : Int)), (a + 2 * (j : Int)) + 1⟩ : S89)) (List.range l.length) xs i hi' (by simpa using h1) h2
    refine ⟨(_, z + 2), ⟨?_, ?_, ?_⟩, markEdgeS_step xs z i k (by omega) (by omega) (by omega) (by omega)⟩
    · simp only [List.length_set]
      exact h1
    · rw [List.getElem_range] at h5
      subst h3
      exact h5
    · simp only [h3]
      omega
  · rintro k ⟨xs, z⟩ ⟨h1, h2, h3⟩
    simp only at h1 h2 h3
    simp only [laws_markEdgeS.l0]
    rw [if_neg (by omega)]
    have h4 := copied_end (fun j : Nat => (⟨(a + 2 * (j : Int)), (a + 2 * (j : Int)) + 1⟩ : S89)) (List.range l.length) xs (by simpa using h1) (by simpa using h2)
    rw [h3, h4]
    rfl
  · exact ⟨rfl, by simp, by simp⟩
def patUint64 (a : Int) (n : Nat) : List Int := (List.range n).map (fun j : Nat => (IntKind.u64.wrap ((a + 1 * (j : Int)))))
theorem markUint64S_step (xs : List Int) (z : Int) (i k : Nat) (hi : i < xs.length) (h0 : 0 ≤ z) (hz : z ≤ 1152921504606846976) (hl : xs.length ≤ 1152921504606846976) :
    laws_markUint64S.l0 (k + 1) xs z (i : Int) = laws_markUint64S.l0 k (xs.set i (IntKind.u64.wrap (z))) (z + 1) ((i + 1 : Nat) : Int) := by
  have v1 : wrap64 (z + 1) = z + 1 := (w64 (by omega) (by omega)).trans (by omega)
  have vi : wrap64 ((i : Int) + 1) = ((i + 1 : Nat) : Int) := (w64 (by omega) (by omega)).trans (by omega)
  simp only [laws_markUint64S.l0, Option.bind_some]
  rw [if_pos (by omega), if_pos (by omega)]
  simp only [v1, vi, rd, Int.toNat_natCast, List.set_set, List.getD_eq_getElem?_getD, List.getElem?_set_self hi, Option.getD_some]
theorem markUint64S_eq (l : List Int) (a : Int) (k : Nat) (hk : l.length < k) (h0 : 0 ≤ a) (ha : a ≤ 1000000000) (hb : l.length ≤ 4611686018427) : laws_markUint64S.f k l a = some (a + 1 * l.length, patUint64 a l.length) := by
  unfold laws_markUint64S.f
  refine up_loop0 (fun k (s : List Int × Int) i => laws_markUint64S.l0 k s.1 s.2 (i : Int)) l.length (fun i s => s.1.length = l.length ∧ s.1.take i = ((List.range l.length).take i).map (fun j : Nat => (IntKind.u64.wrap ((a + 1 * (j : Int))))) ∧ s.2 = a + 1 * (i : Int)) (fun r => r = some (a + 1 * l.length, patUint64 a l.length)) ?_ ?_ k (l, a) ?_ hk
  · rintro k ⟨xs, z⟩ i hi ⟨h1, h2, h3⟩
    simp only at h1 h2 h3
    left
    have hi' : i < (List.range l.length).length := by simpa using hi
    obtain ⟨h4, h5⟩ := copied_step (fun j : Nat => (IntKind.u64.wrap ((a + 1 * (j : Int))))) (List.range l.length) xs i hi' (by simpa using h1) h2
    refine ⟨(_, z + 1), ⟨?_, ?_, ?_⟩, markUint64S_step xs z i k (by omega) (by omega) (by omega) (by omega)⟩
    · simp only [List.length_set]
      exact h1
    · rw [List.getElem_range] at h5
      subst h3
      exact h5
    · simp only [h3]
      omega
  · rintro k ⟨xs, z⟩ ⟨h1, h2, h3⟩
    simp only at h1 h2 h3
    simp only [laws_markUint64S.l0]
    rw [if_neg (by omega)]
    have h4 := copied_end (fun j : Nat => (IntKind.u64.wrap ((a + 1 * (j : Int))))) (List.range l.length) xs (by simpa using h1) (by simpa using h2)
    rw [h3, h4]
    rfl
  · exact ⟨rfl, by simp, by simp⟩
theorem heldUint64S_step (a : Int) (n i k : Nat) (hi : i < n) (h0 : 0 ≤ a) (ha : a ≤ 1000000000) (hl : n ≤ 4611686018427) :
    laws_heldUint64S.l0 (k + 1) (patUint64 a n) (a + 1 * (i : Int)) (i : Int) = laws_heldUint64S.l0 k (patUint64 a n) (a + 1 * ((i + 1 : Nat) : Int)) ((i + 1 : Nat) : Int) := by
  have hlen : (patUint64 a n).length = n := by simp [patUint64]
  have vi : wrap64 ((i : Int) + 1) = ((i + 1 : Nat) : Int) := (w64 (by omega) (by omega)).trans (by omega)
  have e : rd (patUint64 a n) (i : Int) = (fun j : Nat => (IntKind.u64.wrap ((a + 1 * (j : Int))))) i := by
    unfold rd
    rw [getD_nat _ _ i (by omega)]
    simp only [patUint64, List.getElem_map, List.getElem_range]
  have hz : ((a + 1 * ((i + 1 : Nat) : Int)) : Int) = a + 1 * (i : Int) + 1 := by omega
  rw [hz]
  generalize hzz : a + 1 * (i : Int) = z at *
  have hz0 : 0 ≤ z := by omega
  have hz1 : z ≤ 1152921504606846976 := by omega
  have v1 : wrap64 (z + 1) = z + 1 := (w64 (by omega) (by omega)).trans (by omega)
  simp only [laws_heldUint64S.l0]
  rw [if_pos (by omega), if_pos (by omega), e]
  simp only [v1, vi, bne_self_eq_false, Bool.false_eq_true, if_true, if_false, hzz]
theorem heldUint64S_eq (a : Int) (n k : Nat) (hk : n < k) (h0 : 0 ≤ a) (ha : a ≤ 1000000000) (hl : n ≤ 4611686018427) : laws_heldUint64S.f k (patUint64 a n) a = some (a + 1 * n) := by
  unfold laws_heldUint64S.f
  have hlen : (patUint64 a n).length = n := by simp [patUint64]
  refine up_loop0 (fun k (s : Int) i => laws_heldUint64S.l0 k (patUint64 a n) s (i : Int)) n (fun i s => s = a + 1 * (i : Int)) (fun r => r = some (a + 1 * n)) ?_ ?_ k a ?_ hk
  · rintro k s i hi rfl
    left
    exact ⟨_, rfl, heldUint64S_step a n i k hi h0 ha hl⟩
  · rintro k s rfl
    simp only [laws_heldUint64S.l0]
    rw [if_neg (by omega)]
  · simp
def fin (n : Nat) (m : List (List Bool)) : Int × List Int × Bool := if okI (nums (closeAll n m)) (n : Int) = true then ((n : Int), nums (closeAll n m), true) else (0, [], false)
theorem lab_of {n : Nat} (h1 : 1 ≤ n) (hn : n ≤ 16) {m : List (List Bool)} (h : Sq n m) : Lab (n : Int) (nums m) := by
  refine ⟨by omega, by omega, by rw [nums_len h], fun x hx => ?_⟩
  unfold nums at hx
  obtain ⟨r, hr, rfl⟩ := List.mem_map.mp hx
  have := val_small hn r (h.2 r hr)
  omega
theorem fin_spec {n : Nat} (h1 : 1 ≤ n) (hn : n ≤ 16) (m : List (List Bool)) (h : Sq n m) : Evt (fun k => spec_LatOf.l2 k (n : Int) m 0) (fin n m) := by
  have hc := closeAll_sq h
  have L := lab_of h1 hn hc
  refine spec_close hn m h _ ?_
  have s := spec_conv hn (closeAll n m) hc (fin n m) (by
    refine Evt.bind (f := fun k => spec_LatOk.f k (n : Int) (nums (closeAll n m))) (g := fun t180 k => (if t180 = true then (some ((n : Int), nums (closeAll n m), true)) else (some (0, ([] : List Int), false)))) ((okS_eq L) ▸ spec_ok L) ?_
    unfold fin
    cases okI (nums (closeAll n m)) (n : Int) <;> exact Evt.const _) n 0 (by omega)
  rw [List.take_zero] at s
  exact s
theorem fin_impl {n : Nat} (h1 : 1 ≤ n) (hn : n ≤ 16) (m : List (List Bool)) (h : Sq n m) : Evt (fun k => impl_LatOf.l2 k (n : Int) (n : Int) 0 (n : Int) (nums m)) (fin n m) := by
  have hc := closeAll_sq h
  have L := lab_of h1 hn hc
  refine impl_close hn m h _ ?_
  refine Evt.bind (f := fun k => impl_isLat.f k (n : Int) (nums (closeAll n m))) (g := fun t234 k => (if t234 = true then (some ((n : Int), nums (closeAll n m), true)) else (some (0, ([] : List Int), false)))) (impl_ok L) ?_
  unfold fin
  cases okI (nums (closeAll n m)) (n : Int) <;> exact Evt.const _
def ans (n : Nat) (es : List S89) : Int × List Int × Bool := if es.all (edgeOk n) = true then fin n (es.foldl edge (mat0 n)) else (0, [], false)
theorem fold_sq {n : Nat} : ∀ (es : List S89) (m : List (List Bool)), Sq n m → es.all (edgeOk n) = true → Sq n (es.foldl edge m)
  | [], m, h, _ => h
  | e :: t, m, h, ha => by
    simp only [List.all_cons, Bool.and_eq_true] at ha
    exact fold_sq t (edge m e) (edge_sq h e ha.1) ha.2
theorem ans_len {n : Nat} (hn : n ≤ 16) (es : List S89) : (ans n es).2.1.length ≤ 16 := by
  unfold ans
  by_cases c : es.all (edgeOk n) = true
  · rw [if_pos c]
    unfold fin
    split
    · show (nums (closeAll n (es.foldl edge (mat0 n)))).length ≤ 16
      rw [nums_len (closeAll_sq (fold_sq es _ (mat0_sq n) c))]
      exact hn
    · simp
  · rw [if_neg c]; simp
theorem both (N : Int) (es : List S89) : ∃ (x : Int) (u : List Int) (b : Bool), u.length ≤ 16 ∧ Evt (fun k => spec_LatOf.f k N es) (x, u, b) ∧ Evt (fun k => impl_LatOf.f k N es) (x, u, b) := by
  have js : Evt (fun k => spec_LatOf.j0 k N es true) (0, [], false) := Evt.done fun k => by simp only [spec_LatOf.j0, if_true]
  have ji : Evt (fun k => impl_LatOf.j0 k N es true) (0, [], false) := Evt.done fun k => by simp only [impl_LatOf.j0, if_true]
  by_cases h : (1 ≤ N ∧ N ≤ 16) ∧ es.length ≤ 100
  · obtain ⟨⟨g1, g2⟩, hl⟩ := h
    obtain ⟨n, rfl⟩ : ∃ n : Nat, N = (n : Int) := ⟨N.toNat, by omega⟩
    have h1 : 1 ≤ n := by omega
    have hn : n ≤ 16 := by omega
    refine ⟨(ans n es).1, (ans n es).2.1, (ans n es).2.2, ans_len hn es, ?_, ?_⟩
    · refine Evt.congr (g := fun k => spec_LatOf.j0 k (n : Int) es false) ?_ fun k => by
        unfold spec_LatOf.f
        rw [if_neg (by omega), if_neg (by omega), decide_eq_false (by omega)]
      have sl := spec_lay h1 hn es hl (fin n) (fun m hm => fin_spec h1 hn m hm) es.length 0 (mat0 n) (by omega) (mat0_sq n)
      rw [List.drop_zero] at sl
      have sf := spec_fill (α := Nat) n hn es (ans n es) sl n 0 (List.replicate n []) (by omega) (by simp) (by simp)
      refine Evt.step sf fun k => ?_
      simp only [spec_LatOf.j0, Bool.false_eq_true, if_false, Int.toNat_natCast]
      rw [if_pos (by omega), if_pos (by omega)]
      rfl
    · refine Evt.congr (g := fun k => impl_LatOf.j0 k (n : Int) es false) ?_ fun k => by
        unfold impl_LatOf.f impl_in.f
        rw [if_pos g1, decide_eq_true g2, decide_eq_false (by omega)]
        rfl
      have sl := impl_lay h1 hn es hl (fin n) (fun m hm => fin_impl h1 hn m hm) es.length 0 (mat0 n) (by omega) (mat0_sq n)
      rw [List.drop_zero] at sl
      have sf := impl_fill n hn es (ans n es) sl n 0 (List.replicate n 0) (by omega) (by simp) (by simp)
      refine Evt.step sf fun k => ?_
      simp only [impl_LatOf.j0, Bool.false_eq_true, if_false, Int.toNat_natCast]
      rw [if_pos (by omega), if_pos (by omega)]
      rfl
  · refine ⟨0, [], false, by simp, ?_, ?_⟩
    · refine js.congr fun k => ?_
      unfold spec_LatOf.f
      by_cases c1 : N < 1
      · rw [if_pos c1]
      · rw [if_neg c1]
        by_cases c2 : N > 16
        · rw [if_pos c2]
        · rw [if_neg c2, decide_eq_true (by rcases Nat.lt_or_ge 100 es.length with g | g; (· omega); exact absurd ⟨⟨by omega, by omega⟩, g⟩ h)]
    · refine ji.congr fun k => ?_
      unfold impl_LatOf.f impl_in.f
      by_cases c1 : 1 ≤ N
      · rw [if_pos c1]
        by_cases c2 : N ≤ 16
        · rw [decide_eq_true c2, decide_eq_true (show (es.length : Int) > 100 by rcases Nat.lt_or_ge 100 es.length with g | g; (· omega); exact absurd ⟨⟨c1, c2⟩, g⟩ h)]
          rfl
        · rw [decide_eq_false c2]; rfl
      · rw [if_neg c1]; rfl
theorem szEdge_eq (l : List S94) (hl : l.length ≤ 9223372036854775807) : laws_szEdgeS.f l 1048576 = some (if (1048576 : Int) < l.length then (-1 : Int) else (1048576 - l.length : Int)) := by
  unfold laws_szEdgeS.f
  rw [w64 (by omega) (by omega)]
  by_cases h : (1048576 : Int) < l.length
  · rw [if_pos (by omega), if_pos h]
  · rw [if_neg (by omega), if_neg h]
theorem FnExactLatOf : Say.FnExactLatOf := by
  intro N es hN hl hb
  refine Evt.ex (r := true) ?_
  by_cases hs : (1048576 : Int) < es.length
  · refine (Evt.const true).congr fun k => ?_
    unfold laws_FnExactLatOf.f
    rw [szEdge_eq es hl, if_pos hs]
    rfl
  · have hl' : es.length ≤ 1048576 := by omega
    obtain ⟨x, u, b, hu, h1, h2⟩ := both N (es.map (fun x : S94 => (⟨x.f0, x.f1⟩ : S89)))
    obtain ⟨K3, t3⟩ := h1
    obtain ⟨K4, t4⟩ := h2
    obtain ⟨K2, t2⟩ := eqLat_ev x u (by omega)
    simp only at t2 t3 t4
    have hm : (es.map (fun x : S94 => (⟨x.f0, x.f1⟩ : S89))).length = es.length := List.length_map _
    refine ⟨K2 + K3 + K4 + es.length + 30, fun k hk => ?_⟩
    obtain ⟨j, rfl⟩ : ∃ j, k = j + 3 := ⟨k - 3, by omega⟩
    show laws_FnExactLatOf.f (j + 3) N es = some true
    unfold laws_FnExactLatOf.f
    rw [szEdge_eq es hl, if_neg hs]
    simp only [Option.bind_some]
    rw [if_neg (by omega)]
    have e1 : ¬ (1 + 2 * ((es.map (fun x : S94 => (⟨x.f0, x.f1⟩ : S89))).length : Int) < 0) := by omega
    have e2 : ¬ (1 + 1 * (u.length : Int) < 0) := by omega
    have ml : ∀ k, u.length < k → laws_markLat.f k x u 1 = some (1 + 1 * (u.length : Int), patUint64 1 u.length) := fun k hk => by
      unfold laws_markLat.f
      rw [markUint64S_eq u 1 k hk (by omega) (by omega) (by omega)]; rfl
    have hd : ∀ k, u.length < k → laws_heldLat.f k x (patUint64 1 u.length) 1 = some (1 + 1 * (u.length : Int)) := fun k hk => by
      unfold laws_heldLat.f
      rw [heldUint64S_eq 1 u.length k hk (by omega) (by omega) (by omega)]
      simp only [Option.bind_some]
      rw [if_neg e2]
    simp only [toEdgeS_eq es (j + 3) (by omega) hl', t3 (j + 3) (by omega), t4 (j + 3) (by omega), t2 (j + 3) (by omega), Option.bind_some, if_true, bne_self_eq_false]
    simp only [laws_FnExactLatOf.j0, toEdgeS_eq es (j + 2) (by omega) hl', eqEdgeS_refl _ (j + 2) (show (es.map (fun x : S94 => (⟨x.f0, x.f1⟩ : S89))).length < j + 2 by omega) (by omega), markEdgeS_eq (es.map (fun x : S94 => (⟨x.f0, x.f1⟩ : S89))) 1 (j + 2) (by omega) (by omega) (by omega) (by omega), t2 (j + 2) (by omega), Option.bind_some, Bool.false_eq_true, if_false, if_true, if_neg e1, bne_self_eq_false]
    simp only [laws_FnExactLatOf.j1, ml (j + 1) (by omega), hd (j + 1) (by omega), toEdgeS_eq es (j + 1) (by omega) hl', t4 (j + 1) (by omega), t2 (j + 1) (by omega), Option.bind_some, Bool.false_eq_true, if_false, if_true, if_neg e2, bne_self_eq_false]
    simp only [laws_FnExactLatOf.j2, hd j (by omega), Option.bind_some, Bool.false_eq_true, if_false, if_true, if_neg e2]

end Go.Proofs.Ytdpoliolinghfaa.Pure
