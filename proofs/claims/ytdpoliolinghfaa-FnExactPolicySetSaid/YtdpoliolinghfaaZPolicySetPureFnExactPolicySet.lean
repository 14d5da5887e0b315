/- Proved: for every lattice, list and entry the program's PolicySet answers as the reference's, leaves its arguments as they were and hands back memory of its own. No other condition. -/
import Derived.Test.YtdpoliolinghfaaZPolicySetSayFnExactPolicySet
import Derived.Test.YtdpoliolinghfaaZPolicySetBase
import Derived.Test.YtdpoliolinghfaaZPolicySetEv
import Derived.Test.YtdpoliolinghfaaZPolicySetEw
namespace Go.Proofs.Ytdpoliolinghfaa.Pure
open Go.RowKit Go.Proofs.Ytdpoliolinghfaa.QFnExactPolicySet Go.Proofs.YtdpoliolinghfaaW.PrintWords Go.Proofs.YtdpoliolinghfaaW.PrintLast Go.Proofs.YtdpoliolinghfaaW.PrintMore
open Go.Proofs.Ytdpoliolinghfaa.Base
set_option linter.unusedSimpArgs false
set_option linter.unusedVariables false


open Go.Proofs.Ytdpoliolinghfaa.Evt
/-- One label at or below another: a bit of a word. -/
def bt (l : List Int) (a b : Int) : Bool := ((Go.bits .and .u64 (shr .u64 (rd l a) b) 1) == 1)
/-- At or below, or at or above. -/
def sd (l : List Int) (a c : Int) (up : Bool) : Bool := if up = true then bt l a c else bt l c a
/-- What the words of a lattice are like before anything is known of its order. -/
structure Lab (N : Int) (l : List Int) : Prop where
  n1 : 1 ≤ N
  n2 : N ≤ 16
  len : (l.length : Int) = N
  bnd : ∀ x ∈ l, 0 ≤ x ∧ x ≤ 18446744073709551615
theorem bit_eq (x b : Int) (h0 : 0 ≤ b) (h1 : b < 16) : spec_l01Bit.f x b = some ((Go.bits .and .u64 (shr .u64 x b) 1) == 1) := by
  unfold spec_l01Bit.f
  have e : IntKind.u64.wrap b = b := by rw [wu64]; omega
  rw [e, if_pos h0]
theorem side_eq {N : Int} {l : List Int} (h : Lab N l) (a c : Int) (up : Bool) (ha : 0 ≤ a ∧ a < N) (hc : 0 ≤ c ∧ c < N) : spec_l01Side.f N l a c up = some (sd l a c up) := by
  have := h.len
  have := h.n2
  unfold spec_l01Side.f sd
  cases up
  · simp only [Bool.false_eq_true, if_false]
    rw [if_pos hc.1, if_pos (by omega), bit_eq _ _ ha.1 (by omega)]
    rfl
  · simp only [if_true]
    rw [if_pos ha.1, if_pos (by omega), bit_eq _ _ hc.1 (by omega)]
    rfl
theorem le_eq {N : Int} {l : List Int} (h : Lab N l) (a c : Int) (ha : 0 ≤ a ∧ a < N) (hc : 0 ≤ c ∧ c < N) : impl_Lat_le.f N l a c = some (bt l a c) := by
  have := h.len
  unfold impl_Lat_le.f bt
  rw [if_pos ha.1, if_pos (by omega), if_pos hc.1]
theorem under_eq {N : Int} {l : List Int} (h : Lab N l) (a c : Int) (up : Bool) (ha : 0 ≤ a ∧ a < N) (hc : 0 ≤ c ∧ c < N) : impl_Lat_bound_1.f up N l a c = some (sd l a c up) := by
  unfold impl_Lat_bound_1.f sd
  cases up
  · simp only [Bool.false_eq_true, if_false]; exact le_eq h c a hc ha
  · simp only [if_true]; exact le_eq h a c ha hc
def lstq (l : List Int) (a b : Int) (up : Bool) (c d : Int) : Bool := !(sd l a d up && sd l b d up && !sd l c d up)
def okc (l : List Int) (N a b : Int) (up : Bool) (c : Int) : Bool := (sd l a c up && sd l b c up) && allB (lstq l a b up c) N.toNat 0
/-- The least (or greatest) of the labels that fit, -1 where there is none. -/
def bnd (l : List Int) (N a b : Int) (up : Bool) : Int := fstB (okc l N a b up) N.toNat 0
theorem sb_false {N : Int} {l : List Int} (h : Lab N l) (a b : Int) (up : Bool) (c : Int) (hc : 0 ≤ c ∧ c < N) (r : Int) (hr : Evt (fun k => spec_l01Bound.l0 k a b up (c + 1) N l) r) (d : Int) :
    Evt (fun k => spec_l01Bound.l1 k a b up c false d N l) r := by
  have := h.n2
  have hj : Evt (fun k => spec_l01Bound.j3 k a b up c false d false N l) r := Evt.step hr fun k => by
    simp only [spec_l01Bound.j3, Bool.false_eq_true, if_false]
    rw [w64 (by omega) (by omega)]
  exact Evt.step hj fun k => by simp only [spec_l01Bound.l1, ite_self]
theorem sb_true {N : Int} {l : List Int} (h : Lab N l) (a b : Int) (up : Bool) (ha : 0 ≤ a ∧ a < N) (hb : 0 ≤ b ∧ b < N) (c : Int) (hc : 0 ≤ c ∧ c < N) (r : Int) (hr : Evt (fun k => spec_l01Bound.l0 k a b up (c + 1) N l) r) :
    Evt (fun k => spec_l01Bound.l1 k a b up c true 0 N l) (if allB (lstq l a b up c) N.toNat 0 = true then c else r) := by
  have := h.n1
  have := h.n2
  refine Evt.allx (L := fun d k => spec_l01Bound.l1 k a b up c true d N l) (N := N) ?_ ?_ N.toNat 0 (by omega) (by omega)
  · refine Evt.step (g := fun k => spec_l01Bound.j3 k a b up c true N false N l) (Evt.done fun k => by simp only [spec_l01Bound.j3, Bool.false_eq_true, if_false, if_true]) fun k => ?_
    simp only [spec_l01Bound.l1]
    rw [if_neg (by omega)]
  · intro d h0 hd
    have e1 : ∀ k, spec_l01Bound.l1 (k + 1) a b up c true d N l = spec_l01Bound.j3 k a b up c true d true N l := fun k => by
      simp only [spec_l01Bound.l1]; rw [if_pos hd]
    have e2 : ∀ k, spec_l01Bound.j3 (k + 1) a b up c true d true N l = if lstq l a b up c d = true then spec_l01Bound.l1 k a b up c true (d + 1) N l else spec_l01Bound.l1 k a b up c false (d + 1) N l := fun k => by
      simp only [spec_l01Bound.j3, if_true]
      rw [side_eq h a d up ha ⟨h0, hd⟩, side_eq h b d up hb ⟨h0, hd⟩, side_eq h c d up hc ⟨h0, hd⟩, w64 (by omega) (by omega)]
      simp only [Option.bind_some]
      unfold lstq
      cases sd l a d up <;> cases sd l b d up <;> cases sd l c d up <;> rfl
    exact fun r' hr' => Evt.step (g := fun k => spec_l01Bound.j3 k a b up c true d true N l) (Evt.ite hr' (sb_false h a b up c hc r hr (d + 1)) e2) e1
theorem spec_bound {N : Int} {l : List Int} (h : Lab N l) (a b : Int) (up : Bool) (ha : 0 ≤ a ∧ a < N) (hb : 0 ≤ b ∧ b < N) : Evt (fun k => spec_l01Bound.f k N l a b up) (bnd l N a b up) := by
  have := h.n1
  have := h.n2
  refine Evt.fstx (L := fun c k => spec_l01Bound.l0 k a b up c N l) (N := N) ?_ ?_ N.toNat 0 (by omega) (by omega)
  · exact Evt.done fun k => by simp only [spec_l01Bound.l0]; rw [if_neg (by omega)]
  · intro c h0 hc r hr
    have e1 : ∀ k, spec_l01Bound.l0 (k + 1) a b up c N l = spec_l01Bound.j1 k a b up c (sd l a c up && sd l b c up) N l := fun k => by
      simp only [spec_l01Bound.l0]
      rw [if_pos hc, side_eq h a c up ha ⟨h0, hc⟩, side_eq h b c up hb ⟨h0, hc⟩]
      simp only [Option.bind_some]
      cases sd l a c up <;> rfl
    have e2 : ∀ t k, spec_l01Bound.j1 (k + 1) a b up c t N l = spec_l01Bound.l1 k a b up c t 0 N l := fun t k => by simp only [spec_l01Bound.j1]
    refine Evt.step (g := fun k => spec_l01Bound.j1 k a b up c (sd l a c up && sd l b c up) N l) (Evt.step (g := fun k => spec_l01Bound.l1 k a b up c (sd l a c up && sd l b c up) 0 N l) ?_ (e2 _)) e1
    unfold okc
    cases hs : (sd l a c up && sd l b c up) with
    | true => simp only [Bool.true_and]; exact sb_true h a b up ha hb c ⟨h0, hc⟩ r hr
    | false => simp only [Bool.false_and, Bool.false_eq_true, if_false]; exact sb_false h a b up c ⟨h0, hc⟩ r hr 0
theorem impl_bound {N : Int} {l : List Int} (h : Lab N l) (a b : Int) (up : Bool) (ha : 0 ≤ a ∧ a < N) (hb : 0 ≤ b ∧ b < N) : Evt (fun k => impl_Lat_bound.f k N l a b up) (bnd l N a b up) := by
  have := h.n1
  have := h.n2
  refine Evt.fstx (L := fun c k => impl_Lat_bound.l0 k a b up N c N l) (N := N) ?_ ?_ N.toNat 0 (by omega) (by omega)
  · exact Evt.done fun k => by simp only [impl_Lat_bound.l0]; rw [if_neg (by omega)]
  · intro c h0 hc r hr
    have e1 : ∀ k, impl_Lat_bound.l0 (k + 1) a b up N c N l = impl_Lat_bound.j1 k a b up c N c (!(sd l a c up && sd l b c up)) N l := fun k => by
      simp only [impl_Lat_bound.l0]
      rw [if_pos hc, under_eq h a c up ha ⟨h0, hc⟩, under_eq h b c up hb ⟨h0, hc⟩]
      simp only [Option.bind_some]
      cases sd l a c up <;> rfl
    refine Evt.step (g := fun k => impl_Lat_bound.j1 k a b up c N c (!(sd l a c up && sd l b c up)) N l) ?_ e1
    unfold okc
    cases hs : (sd l a c up && sd l b c up) with
    | false =>
      simp only [Bool.false_and, Bool.false_eq_true, if_false, Bool.not_false]
      exact Evt.step hr fun k => by
        simp only [impl_Lat_bound.j1, if_true]
        rw [w64 (by omega) (by omega)]
    | true =>
      simp only [Bool.true_and, Bool.not_true]
      have hl : Evt (fun k => impl_Lat_bound.l1 k a b up c true N c N 0 N l) (if (true && allB (lstq l a b up c) N.toNat 0) = true then c else r) := by
        refine Evt.flagx (L := fun f d k => impl_Lat_bound.l1 k a b up c f N c N d N l) (N := N) ?_ ?_ N.toNat true 0 (by omega) (by omega)
        · intro f
          cases f
          · exact Evt.step hr fun k => by
              simp only [impl_Lat_bound.l1]
              rw [if_neg (by omega), if_neg (by decide), w64 (by omega) (by omega)]
          · exact Evt.done fun k => by
              simp only [impl_Lat_bound.l1]
              rw [if_neg (by omega)]
              simp only [if_true]
        · intro f d d0 hd
          have e2 : ∀ k, impl_Lat_bound.l1 (k + 1) a b up c f N c N d N l = if lstq l a b up c d = true then impl_Lat_bound.l1 k a b up c f N c N (d + 1) N l else impl_Lat_bound.l1 k a b up c false N c N (d + 1) N l := fun k => by
            simp only [impl_Lat_bound.l1]
            rw [if_pos hd, under_eq h a d up ha ⟨d0, hd⟩, under_eq h b d up hb ⟨d0, hd⟩, under_eq h c d up ⟨h0, hc⟩ ⟨d0, hd⟩, w64 (by omega) (by omega)]
            simp only [Option.bind_some]
            unfold lstq
            cases sd l a d up <;> cases sd l b d up <;> cases sd l c d up <;> rfl
          exact fun r' r'' hr' hr'' => Evt.ite hr' hr'' e2
      simp only [Bool.true_and] at hl
      exact Evt.step hl fun k => by simp only [impl_Lat_bound.j1, Bool.false_eq_true, if_false]
theorem lstq_comm (l : List Int) (a b : Int) (up : Bool) (c d : Int) : lstq l a b up c d = lstq l b a up c d := by
  unfold lstq
  rw [Bool.and_comm (sd l a d up)]
theorem bnd_comm (l : List Int) (N a b : Int) (up : Bool) : bnd l N a b up = bnd l N b a up := by
  unfold bnd
  refine fstB_congr _ _ _ _ fun c _ _ => ?_
  unfold okc
  rw [Bool.and_comm (sd l a c up), allB_congr _ _ _ _ fun d _ _ => lstq_comm l a b up c d]
theorem bnd_self (l : List Int) (N a : Int) (up : Bool) (ha : 0 ≤ a ∧ a < N) (hr : bt l a a = true) : 0 ≤ bnd l N a a up := by
  unfold bnd
  refine fstB_nonneg _ _ _ (Int.le_refl 0) ⟨a, ha.1, by omega, ?_⟩
  unfold okc
  have e : sd l a a up = true := by unfold sd; cases up <;> simp [hr]
  rw [e, Bool.and_self, Bool.true_and, allB_iff]
  intro d _ _
  unfold lstq
  cases sd l a d up <;> rfl
def q3 (l : List Int) (a b c : Int) : Bool := !(bt l a b && bt l b c && !bt l a c)
def q2 (l : List Int) (N a b : Int) : Bool := !(!decide (a = b) && bt l a b && bt l b a) && allB (q3 l a b) N.toNat 0
def q1 (l : List Int) (N a : Int) : Bool := allB (q2 l N a) N.toNat 0
theorem impl_order {N : Int} {l : List Int} (h : Lab N l) : Evt (fun k => impl_Lat_isOrder.f k N l) (allB (fun a => bt l a a && q1 l N a) N.toNat 0) := by
  have := h.n1
  have := h.n2
  have main : Evt (fun k => impl_Lat_isOrder.f k N l) (if allB (fun a => bt l a a && q1 l N a) N.toNat 0 = true then true else false) := by
    refine Evt.allx (L := fun a k => impl_Lat_isOrder.l0 k N a N l) (N := N) ?_ ?_ N.toNat 0 (by omega) (by omega)
    · exact Evt.done fun k => by simp only [impl_Lat_isOrder.l0]; rw [if_neg (by omega)]
    · intro a a0 ha r hr
      have inner : Evt (fun k => impl_Lat_isOrder.l1 k a N a N 0 N l) (if q1 l N a = true then r else false) := by
        refine Evt.allx (L := fun b k => impl_Lat_isOrder.l1 k a N a N b N l) (N := N) ?_ ?_ N.toNat 0 (by omega) (by omega)
        · exact Evt.step hr fun k => by
            simp only [impl_Lat_isOrder.l1]
            rw [if_neg (by omega), w64 (by omega) (by omega)]
        · intro b b0 hb r' hr'
          have e1 : ∀ k, impl_Lat_isOrder.l1 (k + 1) a N a N b N l = impl_Lat_isOrder.j2 k a b N a N b (!decide (a = b) && bt l a b && bt l b a) N l := fun k => by
            simp only [impl_Lat_isOrder.l1]
            rw [if_pos hb, le_eq h a b ⟨a0, ha⟩ ⟨b0, hb⟩, le_eq h b a ⟨b0, hb⟩ ⟨a0, ha⟩]
            simp only [Option.bind_some]
            by_cases e : a = b
            · rw [if_pos e, decide_eq_true e]; rfl
            · rw [if_neg e, decide_eq_false e]; cases bt l a b <;> rfl
          have inner2 : Evt (fun k => impl_Lat_isOrder.l2 k a b N a N b N 0 N l) (if allB (q3 l a b) N.toNat 0 = true then r' else false) := by
            refine Evt.allx (L := fun c k => impl_Lat_isOrder.l2 k a b N a N b N c N l) (N := N) ?_ ?_ N.toNat 0 (by omega) (by omega)
            · exact Evt.step hr' fun k => by
                simp only [impl_Lat_isOrder.l2]
                rw [if_neg (by omega), w64 (by omega) (by omega)]
            · intro c c0 hc r'' hr''
              exact Evt.ite hr'' (Evt.const false) fun k => by
                simp only [impl_Lat_isOrder.l2]
                rw [if_pos hc, le_eq h a b ⟨a0, ha⟩ ⟨b0, hb⟩, le_eq h b c ⟨b0, hb⟩ ⟨c0, hc⟩, le_eq h a c ⟨a0, ha⟩ ⟨c0, hc⟩, w64 (by omega) (by omega)]
                simp only [Option.bind_some]
                unfold q3
                cases bt l a b <;> cases bt l b c <;> cases bt l a c <;> rfl
          have e2 : ∀ t k, impl_Lat_isOrder.j2 (k + 1) a b N a N b t N l = if (!t) = true then impl_Lat_isOrder.l2 k a b N a N b N 0 N l else some false := fun t k => by
            simp only [impl_Lat_isOrder.j2]; cases t <;> rfl
          have s := Evt.step (f := fun k => impl_Lat_isOrder.l1 k a N a N b N l) (g := fun k => impl_Lat_isOrder.j2 k a b N a N b (!decide (a = b) && bt l a b && bt l b a) N l) (Evt.ite inner2 (Evt.const false) (e2 _)) e1
          unfold q2
          cases hc : (!(!decide (a = b) && bt l a b && bt l b a)) <;> rw [hc] at s <;> simpa using s
      have e1 : ∀ k, impl_Lat_isOrder.l0 (k + 1) N a N l = if bt l a a = true then impl_Lat_isOrder.l1 k a N a N 0 N l else some false := fun k => by
        simp only [impl_Lat_isOrder.l0]
        rw [if_pos ha, le_eq h a a ⟨a0, ha⟩ ⟨a0, ha⟩]
        simp only [Option.bind_some]
      have s := Evt.ite (f := fun k => impl_Lat_isOrder.l0 k N a N l) inner (Evt.const false) e1
      show Evt _ (if (bt l a a && q1 l N a) = true then r else false)
      cases hc : bt l a a <;> rw [hc] at s <;> simpa using s
  cases hx : allB (fun a => bt l a a && q1 l N a) N.toNat 0 <;> rw [hx] at main <;> exact main
/-- All bounds of all pairs. -/
def qb (l : List Int) (N a b : Int) : Bool := decide (0 ≤ bnd l N a b true) && decide (0 ≤ bnd l N a b false)
def words (l : List Int) (N a : Int) : Bool := decide (shr .u64 (rd l a) N = 0)
def okI (l : List Int) (N : Int) : Bool := allB (words l N) N.toNat 0 && (allB (fun a => bt l a a && q1 l N a) N.toNat 0 && allB (fun a => allB (qb l N a) N.toNat 0) N.toNat 0)
theorem impl_ok {N : Int} {l : List Int} (h : Lab N l) : Evt (fun k => impl_isLat.f k N l) (okI l N) := by
  have := h.n1
  have := h.n2
  have := h.len
  have ho := impl_order h
  have hB : Evt (fun k => impl_isLat.l1 k N 0 N l) (if allB (fun a => allB (qb l N a) N.toNat 0) N.toNat 0 = true then true else false) := by
    refine Evt.allx (L := fun a k => impl_isLat.l1 k N a N l) (N := N) ?_ ?_ N.toNat 0 (by omega) (by omega)
    · exact Evt.done fun k => by simp only [impl_isLat.l1]; rw [if_neg (by omega)]
    · intro a a0 ha r hr
      have inner : Evt (fun k => impl_isLat.l2 k a N a N 0 N l) (if allB (qb l N a) N.toNat 0 = true then r else false) := by
        refine Evt.allx (L := fun b k => impl_isLat.l2 k a N a N b N l) (N := N) ?_ ?_ N.toNat 0 (by omega) (by omega)
        · exact Evt.step hr fun k => by
            simp only [impl_isLat.l2]
            rw [if_neg (by omega), w64 (by omega) (by omega)]
        · intro b b0 hb r' hr'
          refine Evt.step (g := fun k => (impl_Lat_bound.f k N l a b true).bind fun t => if t < 0 then some false else (impl_Lat_bound.f k N l a b false).bind fun t => if t < 0 then some false else impl_isLat.l2 k a N a N (b + 1) N l) ?_ fun k => by
            simp only [impl_isLat.l2]
            rw [if_pos hb, w64 (by omega) (by omega)]
          refine Evt.bind (g := fun t k => if t < 0 then some false else (impl_Lat_bound.f k N l a b false).bind fun t => if t < 0 then some false else impl_isLat.l2 k a N a N (b + 1) N l) (impl_bound h a b true ⟨a0, ha⟩ ⟨b0, hb⟩) ?_
          unfold qb
          by_cases c1 : bnd l N a b true < 0
          · rw [decide_eq_false (by omega), Bool.false_and, if_neg (by decide)]
            exact (Evt.const false).congr fun k => if_pos c1
          · rw [decide_eq_true (by omega), Bool.true_and]
            refine Evt.congr ?_ fun k => if_neg c1
            refine Evt.bind (g := fun t k => if t < 0 then some false else impl_isLat.l2 k a N a N (b + 1) N l) (impl_bound h a b false ⟨a0, ha⟩ ⟨b0, hb⟩) ?_
            by_cases c2 : bnd l N a b false < 0
            · rw [decide_eq_false (by omega), if_neg (by decide)]
              exact (Evt.const false).congr fun k => if_pos c2
            · rw [decide_eq_true (by omega), if_pos rfl]
              exact hr'.congr fun k => if_neg c2
      exact Evt.step inner fun k => by
        simp only [impl_isLat.l1]
        rw [if_pos ha]
  have hW : Evt (fun k => impl_isLat.l0 k l N 0 N l) (if allB (words l N) N.toNat 0 = true then (allB (fun a => bt l a a && q1 l N a) N.toNat 0 && allB (fun a => allB (qb l N a) N.toNat 0) N.toNat 0) else false) := by
    refine Evt.allx (L := fun a k => impl_isLat.l0 k l N a N l) (N := N) ?_ ?_ N.toNat 0 (by omega) (by omega)
    · refine Evt.step (g := fun k => (impl_Lat_isOrder.f k N l).bind fun t => if t = true then impl_isLat.l1 k N 0 N l else some false) ?_ fun k => by
        simp only [impl_isLat.l0]
        rw [if_neg (by omega)]
      refine Evt.bind (g := fun t k => if t = true then impl_isLat.l1 k N 0 N l else some false) ho ?_
      cases allB (fun a => bt l a a && q1 l N a) N.toNat 0 with
      | true =>
        rw [Bool.true_and]
        refine Evt.congr ?_ fun k => if_pos rfl
        cases hx : allB (fun a => allB (qb l N a) N.toNat 0) N.toNat 0 <;> rw [hx] at hB <;> exact hB
      | false => exact (Evt.const false).congr fun k => if_neg (by decide)
    · intro a a0 ha r hr
      exact Evt.ite hr (Evt.const false) fun k => by
        simp only [impl_isLat.l0]
        rw [if_pos ha, if_pos a0, if_pos (by omega), if_pos (by omega), w64 (by omega) (by omega)]
        unfold words
        by_cases c : shr .u64 (rd l a) N = 0
        · rw [if_pos c, if_pos (decide_eq_true c)]
        · rw [if_neg c, if_neg (by rw [decide_eq_false c]; decide)]
  have e1 : ∀ k, impl_isLat.f k N l = impl_isLat.j0 k false N l := fun k => by
    simp only [impl_isLat.f, impl_in.f]
    rw [if_pos (by omega), decide_eq_true (by omega)]
    simp only [Option.bind_some, if_true]
    rw [h.len]
    simp
  refine Evt.congr ?_ e1
  unfold okI
  have s : Evt (fun k => impl_isLat.j0 k false N l) (if allB (words l N) N.toNat 0 = true then (allB (fun a => bt l a a && q1 l N a) N.toNat 0 && allB (fun a => allB (qb l N a) N.toNat 0) N.toNat 0) else false) := Evt.step hW fun k => by
    simp only [impl_isLat.j0, Bool.false_eq_true, if_false]
    rw [h.len]
  cases hx : allB (words l N) N.toNat 0 <;> rw [hx] at s <;> simpa using s
theorem toUint64S_step (l ys : List Int) (i k : Nat) (hi : i < l.length) (hl : ys.length = l.length) (hb : l.length ≤ 1048576) :
    laws_toUint64S.l0 (k + 1) l ys (i : Int) = laws_toUint64S.l0 k l (ys.set i (id l[i])) ((i + 1 : Nat) : Int) := by
  have e : rd l (i : Int) = l[i] := rd_nat l i hi
  simp only [laws_toUint64S.l0]
  rw [if_pos (by omega), if_pos (by omega), if_pos (by omega), e, w64 (by omega) (by omega)]
  simp
theorem toUint64S_eq (l : List Int) (k : Nat) (hk : l.length < k) (hb : l.length ≤ 1048576) : laws_toUint64S.f k l = some l := by
  unfold laws_toUint64S.f
  rw [if_pos (by omega), if_pos (by simp; omega)]
  refine up_loop0 (fun k (ys : List Int) i => laws_toUint64S.l0 k l ys (i : Int)) l.length (fun i ys => ys.length = l.length ∧ ys.take i = (l.take i).map id) (fun r => r = some l) ?_ ?_ k _ ?_ hk
  · rintro k s i hi ⟨h1, h2⟩
    left
    obtain ⟨h3, h4⟩ := copied_step id l s i hi h1 h2
    exact ⟨_, ⟨h3, h4⟩, toUint64S_step l s i k hi h1 hb⟩
  · rintro k s ⟨h1, h2⟩
    simp only [laws_toUint64S.l0]
    rw [if_neg (by omega), copied_end _ l s h1 h2]
    simp
  · simp
theorem eqUint64S_refl (l : List Int) (k : Nat) (hk : l.length < k) (hb : l.length ≤ 4611686018427387904) : laws_eqUint64S.f k l l = some true := by
  unfold laws_eqUint64S.f
  rw [if_pos rfl]
  refine up_loop0 (fun k (_ : Unit) i => laws_eqUint64S.l0 k l l (i : Int)) l.length (fun _ _ => True) (fun r => r = some true) ?_ ?_ k () trivial hk
  · rintro k _ i hi _
    left
    refine ⟨(), trivial, ?_⟩
    simp only [laws_eqUint64S.l0, if_true]
    rw [if_pos (by omega), if_pos (by omega), if_pos (by omega), w64 (by omega) (by omega)]
    simp
  · rintro k _ _
    simp only [laws_eqUint64S.l0]
    rw [if_neg (by omega)]
theorem szLat_eq (N : Int) (l : List Int) (hl : l.length ≤ 9223372036854775807) : laws_szLat.f N l 1048576 = some (if (1048576 : Int) < l.length then (-1 : Int) else (1048576 - l.length : Int)) := by
  unfold laws_szLat.f laws_szUint64S.f
  rw [w64 (by omega) (by omega)]
  by_cases h : (1048576 : Int) < l.length
  · simp only [if_pos (show (1048576 : Int) - l.length < 0 by omega), if_pos h, Option.bind_some]
    rfl
  · simp only [if_neg (show ¬ (1048576 : Int) - l.length < 0 by omega), if_neg h, Option.bind_some]
theorem toLat_ev (N : Int) (l : List Int) (hl : l.length ≤ 1048576) : Evt (fun k => laws_toLat.f k N l) (N, l) :=
  Evt.of_lt (n := l.length) fun k hk => by
    show laws_toLat.f k N l = some (N, l)
    unfold laws_toLat.f
    rw [toUint64S_eq l k hk hl]; rfl
theorem eqLat_ev (N : Int) (l : List Int) (hl : l.length ≤ 1048576) : Evt (fun k => laws_eqLat.f k N l N l) true :=
  Evt.of_lt (n := l.length) fun k hk => by
    show laws_eqLat.f k N l N l = some true
    unfold laws_eqLat.f
    rw [if_pos rfl, eqUint64S_refl l k hk (by omega)]; rfl
theorem power_go : ∀ (n : Nat) (x : Int), n ≤ 64 → 0 ≤ x → x * 2 ^ n < 18446744073709551616 → Evt (fun k => spec_l01Power.l0 k (n : Int) x) (x * 2 ^ n)
  | 0, x, _, _, _ => Evt.done fun k => by
    simp only [spec_l01Power.l0]
    rw [if_neg (by omega)]
    simp
  | n + 1, x, hn, h0, hx => by
    have e : x * 2 ^ (n + 1) = (2 * x) * 2 ^ n := by rw [Int.pow_succ, Int.mul_comm 2 x, Int.mul_assoc, Int.mul_comm 2]
    rw [e] at hx ⊢
    have p1 : (1 : Int) ≤ 2 ^ n := by have : (0 : Int) < 2 ^ n := Int.pow_pos (by decide); omega
    have p2 := Int.mul_le_mul_of_nonneg_left p1 (show (0 : Int) ≤ 2 * x by omega)
    refine Evt.step (power_go n (2 * x) (by omega) (by omega) hx) fun k => ?_
    simp only [spec_l01Power.l0]
    rw [if_pos (by omega), w64 (by omega) (by omega), wu64]
    rw [Int.mul_one] at p2
    have e1 : (2 * x) % 18446744073709551616 = 2 * x := by omega
    rw [e1]
    congr 1
    omega
theorem power_ev {N : Int} (h1 : 1 ≤ N) (h2 : N ≤ 16) : Evt (fun k => spec_l01Power.f k N) (2 ^ N.toNat) := by
  have p : (2 : Int) ^ N.toNat ≤ 2 ^ 16 := by
    have : (2 : Nat) ^ N.toNat ≤ 2 ^ 16 := Nat.pow_le_pow_right (by decide) (by omega)
    have := Int.ofNat_le.mpr this
    simpa using this
  have := power_go N.toNat 1 (by omega) (by decide) (by omega)
  rw [Int.one_mul] at this
  have e : ((N.toNat : Nat) : Int) = N := by omega
  rw [e] at this
  exact this
theorem words_eq {N : Int} {l : List Int} (h : Lab N l) (a : Int) (h0 : 0 ≤ a) (ha : a < N) : words l N a = !decide (rd l a ≥ 2 ^ N.toNat) := by
  have := h.n2
  have := h.len
  have hx : 0 ≤ rd l a := by
    have : rd l a ∈ l := by
      have e : a = ((a.toNat : Nat) : Int) := by omega
      rw [e, rd_nat l a.toNat (by omega)]
      exact List.getElem_mem _
    exact (h.bnd _ this).1
  unfold words shr
  have m : min N.toNat IntKind.u64.bits = N.toNat := Nat.min_eq_left (by simp only [IntKind.bits]; omega)
  rw [m]
  generalize rd l a = x at hx
  have hp : (0 : Int) < 2 ^ N.toNat := Int.pow_pos (by decide)
  generalize (2 : Int) ^ N.toNat = p at hp
  by_cases c : x < p
  · rw [decide_eq_true (Int.ediv_eq_zero_of_lt hx c), decide_eq_false (by omega)]; rfl
  · rw [decide_eq_true (show x ≥ p by omega)]
    refine decide_eq_false fun e => c ?_
    have h1 := Int.emod_lt_of_pos x hp
    have h2 := Int.mul_ediv_add_emod x p
    rw [e, Int.mul_zero, Int.zero_add] at h2
    omega
def okS (l : List Int) (N : Int) : Bool := allB (fun a => (bt l a a && !decide (rd l a ≥ 2 ^ N.toNat)) && q1 l N a) N.toNat 0 && allB (fun a => allB (qb l N a) a.toNat 0) N.toNat 0
theorem okS_eq {N : Int} {l : List Int} (h : Lab N l) : okS l N = okI l N := by
  have := h.n1
  have e1 : allB (fun a => (bt l a a && !decide (rd l a ≥ 2 ^ N.toNat)) && q1 l N a) N.toNat 0 = (allB (words l N) N.toNat 0 && allB (fun a => bt l a a && q1 l N a) N.toNat 0) := by
    rw [Bool.eq_iff_iff, Bool.and_eq_true, allB_iff, allB_iff, allB_iff]
    constructor
    · intro g
      constructor
      · intro i h1 h2
        have := g i h1 h2
        rw [words_eq h i h1 (by omega)]
        simp only [Bool.and_eq_true] at this
        exact this.1.2
      · intro i h1 h2
        have := g i h1 h2
        simp only [Bool.and_eq_true] at this ⊢
        exact ⟨this.1.1, this.2⟩
    · rintro ⟨g1, g2⟩ i h1 h2
      have e1 := g1 i h1 h2
      have e2 := g2 i h1 h2
      rw [words_eq h i h1 (by omega)] at e1
      simp only [Bool.and_eq_true] at e1 e2 ⊢
      exact ⟨⟨e2.1, e1⟩, e2.2⟩
  unfold okS okI
  rw [e1, Bool.and_assoc]
  cases allB (words l N) N.toNat 0 with
  | false => rfl
  | true =>
    simp only [Bool.true_and]
    by_cases hr : allB (fun a => bt l a a && q1 l N a) N.toNat 0 = true
    · rw [hr, Bool.true_and, Bool.true_and, Bool.eq_iff_iff, allB_iff, allB_iff]
      rw [allB_iff] at hr
      constructor
      · intro g i h1 h2
        rw [allB_iff]
        intro j h3 h4
        rcases Int.lt_trichotomy j i with c | c | c
        · exact (allB_iff _ _ _).mp (g i h1 h2) j h3 (by omega)
        · subst c
          have := hr j h3 h4
          simp only [Bool.and_eq_true] at this
          unfold qb
          rw [decide_eq_true (bnd_self l N j true ⟨h3, by omega⟩ this.1), decide_eq_true (bnd_self l N j false ⟨h3, by omega⟩ this.1)]
          rfl
        · have := (allB_iff _ _ _).mp (g j h3 h4) i h1 (by omega)
          unfold qb at this ⊢
          rw [bnd_comm l N i j true, bnd_comm l N i j false]
          exact this
      · intro g i h1 h2
        rw [allB_iff]
        intro j h3 h4
        exact (allB_iff _ _ _).mp (g i h1 h2) j h3 (by omega)
    · rw [Bool.eq_false_iff.mpr hr, Bool.false_and, Bool.false_and]
theorem spec_ok {N : Int} {l : List Int} (h : Lab N l) : Evt (fun k => spec_LatOk.f k N l) (okS l N) := by
  have := h.n1
  have := h.n2
  have := h.len
  have hB : Evt (fun k => spec_LatOk.l3 k 0 N l) (if allB (fun a => allB (qb l N a) a.toNat 0) N.toNat 0 = true then true else false) := by
    refine Evt.allx (L := fun a k => spec_LatOk.l3 k a N l) (N := N) ?_ ?_ N.toNat 0 (by omega) (by omega)
    · exact Evt.done fun k => by simp only [spec_LatOk.l3]; rw [if_neg (by omega)]
    · intro a a0 ha r hr
      have inner : Evt (fun k => spec_LatOk.l4 k a 0 N l) (if allB (qb l N a) a.toNat 0 = true then r else false) := by
        refine Evt.allx (L := fun b k => spec_LatOk.l4 k a b N l) (N := a) ?_ ?_ a.toNat 0 (by omega) (by omega)
        · exact Evt.step hr fun k => by
            simp only [spec_LatOk.l4]
            rw [if_neg (by omega), w64 (by omega) (by omega)]
        · intro b b0 hb r' hr'
          refine Evt.step (g := fun k => (spec_l01Bound.f k N l a b true).bind fun t => if t < 0 then some false else (spec_l01Bound.f k N l a b false).bind fun t => if t < 0 then some false else spec_LatOk.l4 k a (b + 1) N l) ?_ fun k => by
            simp only [spec_LatOk.l4]
            rw [if_pos hb, w64 (by omega) (by omega)]
          refine Evt.bind (g := fun t k => if t < 0 then some false else (spec_l01Bound.f k N l a b false).bind fun t => if t < 0 then some false else spec_LatOk.l4 k a (b + 1) N l) (spec_bound h a b true ⟨a0, ha⟩ ⟨b0, by omega⟩) ?_
          unfold qb
          by_cases c1 : bnd l N a b true < 0
          · rw [decide_eq_false (by omega), Bool.false_and, if_neg (by decide)]
            exact (Evt.const false).congr fun k => if_pos c1
          · rw [decide_eq_true (by omega), Bool.true_and]
            refine Evt.congr ?_ fun k => if_neg c1
            refine Evt.bind (g := fun t k => if t < 0 then some false else spec_LatOk.l4 k a (b + 1) N l) (spec_bound h a b false ⟨a0, ha⟩ ⟨b0, by omega⟩) ?_
            by_cases c2 : bnd l N a b false < 0
            · rw [decide_eq_false (by omega), if_neg (by decide)]
              exact (Evt.const false).congr fun k => if_pos c2
            · rw [decide_eq_true (by omega), if_pos rfl]
              exact hr'.congr fun k => if_neg c2
      exact Evt.step inner fun k => by
        simp only [spec_LatOk.l3]
        rw [if_pos ha]
  have hB' : Evt (fun k => spec_LatOk.l3 k 0 N l) (allB (fun a => allB (qb l N a) a.toNat 0) N.toNat 0) := by
    cases hx : allB (fun a => allB (qb l N a) a.toNat 0) N.toNat 0 <;> rw [hx] at hB <;> exact hB
  have hW : Evt (fun k => spec_LatOk.l0 k 0 N l) (if allB (fun a => (bt l a a && !decide (rd l a ≥ 2 ^ N.toNat)) && q1 l N a) N.toNat 0 = true then allB (fun a => allB (qb l N a) a.toNat 0) N.toNat 0 else false) := by
    refine Evt.allx (L := fun a k => spec_LatOk.l0 k a N l) (N := N) ?_ ?_ N.toNat 0 (by omega) (by omega)
    · exact Evt.step hB' fun k => by
        simp only [spec_LatOk.l0]
        rw [if_neg (by omega)]
    · intro a a0 ha r hr
      have inner : Evt (fun k => spec_LatOk.l1 k a 0 N l) (if q1 l N a = true then r else false) := by
        refine Evt.allx (L := fun b k => spec_LatOk.l1 k a b N l) (N := N) ?_ ?_ N.toNat 0 (by omega) (by omega)
        · exact Evt.step hr fun k => by
            simp only [spec_LatOk.l1]
            rw [if_neg (by omega), w64 (by omega) (by omega)]
        · intro b b0 hb r' hr'
          have e1 : ∀ k, spec_LatOk.l1 (k + 1) a b N l = spec_LatOk.j4 k a b (!decide (a = b) && bt l a b && bt l b a) N l := fun k => by
            simp only [spec_LatOk.l1]
            rw [if_pos hb, if_pos a0, if_pos b0, if_pos (show a < (l.length : Int) by omega), if_pos (show b < (l.length : Int) by omega), bit_eq _ b b0 (by omega), bit_eq _ a a0 (by omega)]
            simp only [Option.bind_some]
            by_cases e : a = b
            · rw [if_pos e, decide_eq_true e]; rfl
            · rw [if_neg e, decide_eq_false e]
              show (if bt l a b = true then spec_LatOk.j4 k a b (bt l b a) N l else _) = _
              cases bt l a b <;> rfl
          have inner2 : Evt (fun k => spec_LatOk.l2 k a b 0 N l) (if allB (q3 l a b) N.toNat 0 = true then r' else false) := by
            refine Evt.allx (L := fun c k => spec_LatOk.l2 k a b c N l) (N := N) ?_ ?_ N.toNat 0 (by omega) (by omega)
            · exact Evt.step hr' fun k => by
                simp only [spec_LatOk.l2]
                rw [if_neg (by omega), w64 (by omega) (by omega)]
            · intro c c0 hc r'' hr''
              exact Evt.ite hr'' (Evt.const false) fun k => by
                simp only [spec_LatOk.l2]
                rw [if_pos hc, if_pos a0, if_pos b0, if_pos (show a < (l.length : Int) by omega), if_pos (show b < (l.length : Int) by omega), bit_eq _ b b0 (by omega), bit_eq _ c c0 (by omega), bit_eq _ c c0 (by omega), w64 (by omega) (by omega)]
                simp only [Option.bind_some]
                show (if bt l a b = true then (if bt l b c = true then (if bt l a c = true then _ else _) else _) else _) = _
                unfold q3
                cases bt l a b <;> cases bt l b c <;> cases bt l a c <;> rfl
          have e2 : ∀ t k, spec_LatOk.j4 (k + 1) a b t N l = if (!t) = true then spec_LatOk.l2 k a b 0 N l else some false := fun t k => by
            simp only [spec_LatOk.j4]; cases t <;> rfl
          have s := Evt.step (f := fun k => spec_LatOk.l1 k a b N l) (g := fun k => spec_LatOk.j4 k a b (!decide (a = b) && bt l a b && bt l b a) N l) (Evt.ite inner2 (Evt.const false) (e2 _)) e1
          unfold q2
          cases hc : (!(!decide (a = b) && bt l a b && bt l b a)) <;> rw [hc] at s <;> simpa using s
      have e2 : ∀ t k, spec_LatOk.j2 (k + 1) a t N l = if (!t) = true then spec_LatOk.l1 k a 0 N l else some false := fun t k => by
        simp only [spec_LatOk.j2]; cases t <;> rfl
      have hj : ∀ t, Evt (fun k => spec_LatOk.j2 k a t N l) (if (!t) = true then (if q1 l N a = true then r else false) else false) := fun t => Evt.ite inner (Evt.const false) (e2 t)
      have e1 : ∀ k, spec_LatOk.l0 (k + 1) a N l = if bt l a a = true then ((spec_l01Power.f k N).bind fun t => spec_LatOk.j2 k a (decide (rd l a ≥ t)) N l) else spec_LatOk.j2 k a true N l := fun k => by
        simp only [spec_LatOk.l0]
        rw [if_pos ha, if_pos a0, if_pos (show a < (l.length : Int) by omega), bit_eq _ a a0 (by omega)]
        simp only [Option.bind_some]
        rfl
      have s := Evt.ite (f := fun k => spec_LatOk.l0 k a N l) (Evt.bind (g := fun t k => spec_LatOk.j2 k a (decide (rd l a ≥ t)) N l) (power_ev h.n1 h.n2) (hj _)) (hj true) e1
      show Evt _ (if ((bt l a a && !decide (rd l a ≥ 2 ^ N.toNat)) && q1 l N a) = true then r else false)
      cases hc : bt l a a <;> cases hd : decide (rd l a ≥ 2 ^ N.toNat) <;> rw [hc, hd] at s <;> simpa using s
  have e1 : ∀ k, spec_LatOk.f k N l = spec_LatOk.j0 k false N l := fun k => by
    simp only [spec_LatOk.f]
    rw [if_neg (by omega), if_neg (by omega), h.len]
    simp
  refine Evt.congr ?_ e1
  unfold okS
  have s : Evt (fun k => spec_LatOk.j0 k false N l) _ := Evt.step hW fun k => by simp only [spec_LatOk.j0, Bool.false_eq_true, if_false]
  cases hx : allB (fun a => (bt l a a && !decide (rd l a ≥ 2 ^ N.toNat)) && q1 l N a) N.toNat 0 <;> rw [hx] at s <;> simpa using s
/-- Both say the same of every lattice, and true only of one whose shape is right. -/
theorem both_ok (N : Int) (l : List Int) (hb : ∀ x ∈ l, 0 ≤ x ∧ x ≤ 18446744073709551615) :
    ∃ r, Evt (fun k => spec_LatOk.f k N l) r ∧ Evt (fun k => impl_isLat.f k N l) r ∧ (r = true → Lab N l ∧ okI l N = true) := by
  by_cases h : (1 ≤ N ∧ N ≤ 16) ∧ (l.length : Int) = N
  · have L : Lab N l := ⟨h.1.1, h.1.2, h.2, hb⟩
    exact ⟨okI l N, (okS_eq L) ▸ spec_ok L, impl_ok L, fun hr => ⟨L, hr⟩⟩
  · refine ⟨false, ?_, ?_, fun hr => by cases hr⟩
    · refine Evt.congr (g := fun k => spec_LatOk.j0 k true N l) (Evt.done fun k => by simp only [spec_LatOk.j0, if_true]) fun k => ?_
      simp only [spec_LatOk.f]
      by_cases c1 : N < 1
      · rw [if_pos c1]
      · rw [if_neg c1]
        by_cases c2 : N > 16
        · rw [if_pos c2]
        · rw [if_neg c2]
          have : ((l.length : Int) != N) = true := by simp only [bne_iff_ne, ne_eq]; omega
          rw [this]
    · refine Evt.congr (g := fun k => impl_isLat.j0 k true N l) (Evt.done fun k => by simp only [impl_isLat.j0, if_true]) fun k => ?_
      simp only [impl_isLat.f, impl_in.f]
      by_cases c1 : 1 ≤ N
      · rw [if_pos c1]
        by_cases c2 : N ≤ 16
        · rw [decide_eq_true c2]
          have : ((l.length : Int) != N) = true := by simp only [bne_iff_ne, ne_eq]; omega
          rw [this]
          rfl
        · rw [decide_eq_false c2]
          rfl
      · rw [if_neg c1]
        rfl
def here (N a : Int) : Bool := decide (0 ≤ a) && decide (a < N)
/-- In a lattice that is right every two labels have their bounds. -/
theorem bnd_in {N : Int} {l : List Int} (h : Lab N l) (ho : okI l N = true) (a b : Int) (up : Bool) (ha : 0 ≤ a ∧ a < N) (hb : 0 ≤ b ∧ b < N) : 0 ≤ bnd l N a b up ∧ bnd l N a b up < N := by
  have := h.n1
  unfold okI at ho
  simp only [Bool.and_eq_true] at ho
  have q := (allB_iff _ _ _).mp ((allB_iff _ _ _).mp ho.2.2 a ha.1 (by omega)) b hb.1 (by omega)
  unfold qb at q
  simp only [Bool.and_eq_true, decide_eq_true_eq] at q
  have p : 0 ≤ bnd l N a b up := by cases up; exact q.2; exact q.1
  refine ⟨p, ?_⟩
  rcases fstB_range (okc l N a b up) N.toNat 0 (Int.le_refl 0) with e | ⟨_, e, _⟩
  · unfold bnd at p; omega
  · unfold bnd; omega
theorem ok_refl {N : Int} {l : List Int} (ho : okI l N = true) (a : Int) (h : 0 ≤ a ∧ a < N) : bt l a a = true := by
  unfold okI at ho
  simp only [Bool.and_eq_true] at ho
  have := (allB_iff _ _ _).mp ho.2.1 a h.1 (by omega)
  simp only [Bool.and_eq_true] at this
  exact this.1
theorem bnd_zero {N : Int} {l : List Int} (h : Lab N l) (ho : okI l N = true) (up : Bool) : bnd l N 0 0 up = 0 := by
  have := h.n1
  obtain ⟨m, hm⟩ : ∃ m, N.toNat = m + 1 := ⟨N.toNat - 1, by omega⟩
  unfold bnd
  rw [hm]
  show (if okc l N 0 0 up 0 = true then 0 else fstB (okc l N 0 0 up) m (0 + 1)) = 0
  have hr := ok_refl ho 0 ⟨Int.le_refl 0, by omega⟩
  have e : sd l 0 0 up = true := by unfold sd; cases up <;> simp [hr]
  refine if_pos ?_
  unfold okc
  rw [e, Bool.and_self, Bool.true_and, allB_iff]
  intro d _ _
  unfold lstq
  cases sd l 0 d up <;> rfl
theorem in_le (a l h : Int) : impl_in.f a l h = some (decide (l ≤ a) && decide (a ≤ h)) := by
  unfold impl_in.f
  by_cases c : l ≤ a <;> simp [c]
def low (b : Int) : Int := if b = 0 then 16 else if b = 1 then 8 else if b = 2 then 4 else if b = 3 then 2 else 1
theorem shr4 (x : Int) : shr .i64 x 4 = x / 16 := rfl
theorem shr3 (x : Int) : shr .i64 x 3 = x / 8 := rfl
theorem shr2 (x : Int) : shr .i64 x 2 = x / 4 := rfl
theorem shr1 (x : Int) : shr .i64 x 1 = x / 2 := rfl
theorem shr0 (x : Int) : shr .i64 x 0 = x / 1 := rfl
theorem wi64 (x : Int) : IntKind.i64.wrap x = wrap64 x := by
  simp [IntKind.wrap, IntKind.bits, IntKind.signed, wrap64]
  omega
theorem shl4 (x : Int) : shl .i64 x 4 = wrap64 (x * 16) := wi64 _
theorem shl3 (x : Int) : shl .i64 x 3 = wrap64 (x * 8) := wi64 _
theorem shl2 (x : Int) : shl .i64 x 2 = wrap64 (x * 4) := wi64 _
theorem shl1 (x : Int) : shl .i64 x 1 = wrap64 (x * 2) := wi64 _
theorem shl0 (x : Int) : shl .i64 x 0 = wrap64 (x * 1) := wi64 _
theorem pow_low (b : Int) (hb : 0 ≤ b ∧ b ≤ 4) : Evt (fun k => spec_l04Pow.f k (wrap64 (4 - b))) (low b) := by
  have hm := fun (n : Int) (r : Int) (h : spec_l04Pow.f 6 n = some r) => (⟨6, fun k hk => by
    obtain ⟨d, rfl⟩ : ∃ d, k = 6 + d := ⟨k - 6, by omega⟩
    exact more_rounds (g := fun k => spec_l04Pow.f k n) (fun k => spec_l04Pow.mono n k) 6 d r h⟩ : Evt (fun k => spec_l04Pow.f k n) r)
  obtain rfl | rfl | rfl | rfl | rfl : b = 0 ∨ b = 1 ∨ b = 2 ∨ b = 3 ∨ b = 4 := by omega
  all_goals exact hm _ _ (by decide +kernel)
def place (s b key : Int) : Bool := (decide (0 ≤ s) && decide (s ≤ 3)) && ((decide (0 ≤ b) && decide (b ≤ 4)) && (decide (0 ≤ key) && decide (key ≤ 15)))
def rightB (s b key : Int) : Bool := place s b key && decide (key % low b = 0)
theorem right_ev (s b key lbl : Int) : Evt (fun k => spec_l04Right.f k s b key lbl) (rightB s b key) := by
  by_cases h : (0 ≤ s ∧ s ≤ 3) ∧ (0 ≤ b ∧ b ≤ 4) ∧ (0 ≤ key ∧ key ≤ 15)
  · obtain ⟨⟨a1, a2⟩, hb, c1, c2⟩ := h
    have hp : place s b key = true := by unfold place; simp [a1, a2, hb, c1, c2]
    have a3 : s < 4 := by omega
    refine Evt.congr (g := fun k => (spec_l04Pow.f k (wrap64 (4 - b))).bind fun t => if t = 0 then none else some ((Int.tmod key t) == 0)) ?_ fun k => by
      simp only [spec_l04Right.f, spec_l04Src.f, spec_l04Bits.f, spec_l04Key.f]
      simp [a1, a3, hb, c1, c2]
    refine Evt.bind (g := fun t k => if t = 0 then none else some ((Int.tmod key t) == 0)) (pow_low b hb) ?_
    refine (Evt.const _).congr fun k => ?_
    have hl : low b ≠ 0 := by unfold low; split <;> (try split) <;> (try split) <;> (try split) <;> decide
    rw [if_neg hl, Int.tmod_eq_emod_of_nonneg c1]
    unfold rightB
    rw [hp, Bool.true_and]
    rfl
  · have hp : place s b key = false := by
      unfold place
      rw [Bool.eq_false_iff]
      simp only [ne_eq, Bool.and_eq_true, decide_eq_true_eq]
      exact fun g => h ⟨g.1, g.2.1, g.2.2⟩
    have : rightB s b key = false := by unfold rightB; rw [hp]; rfl
    rw [this]
    refine (Evt.const _).congr fun k => ?_
    simp only [spec_l04Right.f, spec_l04Src.f, spec_l04Bits.f, spec_l04Key.f]
    by_cases g1 : 0 ≤ s <;> by_cases g2 : s < 4 <;> by_cases g3 : 0 ≤ b <;> by_cases g4 : b ≤ 4 <;> by_cases g5 : 0 ≤ key <;> by_cases g6 : key ≤ 15
    all_goals first | (exfalso; omega) | simp [g1, g2, g3, g4, g5, g6]
theorem place_eq (s b key lbl : Int) : impl_Punct_isPlace.f s b key lbl = some (place s b key) := by
  unfold impl_Punct_isPlace.f impl_isSource.f impl_isKey.f place
  simp only [in_le, Option.bind_some]
  by_cases g1 : 0 ≤ s <;> by_cases g2 : s ≤ 3 <;> by_cases g3 : 0 ≤ b <;> by_cases g4 : b ≤ 4 <;> simp [g1, g2, g3, g4]
theorem front_eq (s b key lbl x : Int) (hb : 0 ≤ b ∧ b ≤ 4) : impl_Punct_front.f s b key lbl x = some (x / low b) := by
  unfold impl_Punct_front.f
  rw [w64 (by omega) (by omega), if_pos (by omega)]
  obtain rfl | rfl | rfl | rfl | rfl : b = 0 ∨ b = 1 ∨ b = 2 ∨ b = 3 ∨ b = 4 := by omega
  all_goals rfl
theorem isPunct_eq {N : Int} (hN : 1 ≤ N ∧ N ≤ 16) (l : List Int) (s b key lbl : Int) : impl_isPunct.f N l s b key lbl = some (rightB s b key && here N lbl) := by
  unfold impl_isPunct.f
  rw [place_eq]
  simp only [Option.bind_some]
  by_cases hp : place s b key = true
  · rw [if_pos hp]
    have h := hp
    unfold place at h
    simp only [Bool.and_eq_true, decide_eq_true_eq] at h
    obtain ⟨hs, hb, hk⟩ := h
    rw [front_eq s b key lbl key hb, w64 (show -9223372036854775808 ≤ 4 - b by omega) (by omega)]
    simp only [Option.bind_some]
    rw [if_pos (by omega)]
    have e : shl .i64 (key / low b) (4 - b) = key / low b * low b := by
      obtain rfl | rfl | rfl | rfl | rfl : b = 0 ∨ b = 1 ∨ b = 2 ∨ b = 3 ∨ b = 4 := by omega
      · show shl .i64 (key / 16) 4 = key / 16 * 16
        rw [shl4, w64 (by omega) (by omega)]
      · show shl .i64 (key / 8) 3 = key / 8 * 8
        rw [shl3, w64 (by omega) (by omega)]
      · show shl .i64 (key / 4) 2 = key / 4 * 4
        rw [shl2, w64 (by omega) (by omega)]
      · show shl .i64 (key / 2) 1 = key / 2 * 2
        rw [shl1, w64 (by omega) (by omega)]
      · show shl .i64 (key / 1) 0 = key / 1 * 1
        rw [shl0, w64 (by omega) (by omega)]
    have e2 : (key / low b * low b = key) ↔ key % low b = 0 := by
      obtain rfl | rfl | rfl | rfl | rfl : b = 0 ∨ b = 1 ∨ b = 2 ∨ b = 3 ∨ b = 4 := by omega
      · show key / 16 * 16 = key ↔ key % 16 = 0; omega
      · show key / 8 * 8 = key ↔ key % 8 = 0; omega
      · show key / 4 * 4 = key ↔ key % 4 = 0; omega
      · show key / 2 * 2 = key ↔ key % 2 = 0; omega
      · show key / 1 * 1 = key ↔ key % 1 = 0; omega
    rw [e]
    unfold rightB
    rw [hp, Bool.true_and]
    by_cases c : key % low b = 0
    · rw [if_pos (e2.mpr c), decide_eq_true c, Bool.true_and]
      unfold impl_Lat_has.f here
      rw [in_le, w64 (by omega) (by omega)]
      simp only [Option.bind_some]
      have : decide (lbl ≤ N - 1) = decide (lbl < N) := decide_eq_decide.2 (by omega)
      rw [this]
    · rw [if_neg (fun h => c (e2.mp h)), decide_eq_false c, Bool.false_and]
  · rw [if_neg hp]
    unfold rightB
    rw [Bool.eq_false_iff.mpr hp, Bool.false_and, Bool.false_and]
theorem toPunctS_step (l : List S56) (ys : List S58) (i k : Nat) (hi : i < l.length) (hl : ys.length = l.length) (hb : l.length ≤ 1048576) :
    laws_toPunctS.l0 (k + 1) l ys (i : Int) = laws_toPunctS.l0 k l (ys.set i ((fun x : S56 => (⟨x.f0, x.f1, x.f2, x.f3⟩ : S58)) l[i])) ((i + 1 : Nat) : Int) := by
  have e : rd_T56 l (i : Int) = l[i] := getD_nat l _ i hi
  simp only [laws_toPunctS.l0, laws_toPunct.f, Option.bind_some]
  rw [if_pos (by omega), if_pos (by omega), if_pos (by omega), e, w64 (by omega) (by omega)]
  simp
theorem toPunctS_eq (l : List S56) (k : Nat) (hk : l.length < k) (hb : l.length ≤ 1048576) : laws_toPunctS.f k l = some (l.map (fun x : S56 => (⟨x.f0, x.f1, x.f2, x.f3⟩ : S58))) := by
  unfold laws_toPunctS.f
  rw [if_pos (by omega), if_pos (by simp; omega)]
  refine up_loop0 (fun k (ys : List S58) i => laws_toPunctS.l0 k l ys (i : Int)) l.length (fun i ys => ys.length = l.length ∧ ys.take i = (l.take i).map (fun x : S56 => (⟨x.f0, x.f1, x.f2, x.f3⟩ : S58))) (fun r => r = some (l.map (fun x : S56 => (⟨x.f0, x.f1, x.f2, x.f3⟩ : S58)))) ?_ ?_ k _ ?_ hk
  · rintro k s i hi ⟨h1, h2⟩
    left
    obtain ⟨h3, h4⟩ := copied_step (fun x : S56 => (⟨x.f0, x.f1, x.f2, x.f3⟩ : S58)) l s i hi h1 h2
    exact ⟨_, ⟨h3, h4⟩, toPunctS_step l s i k hi h1 hb⟩
  · rintro k s ⟨h1, h2⟩
    simp only [laws_toPunctS.l0]
    rw [if_neg (by omega), copied_end _ l s h1 h2]
  · simp

theorem eqPunctS_refl (l : List S58) (k : Nat) (hk : l.length < k) (hb : l.length ≤ 4611686018427387904) : laws_eqPunctS.f k l l = some true := by
  unfold laws_eqPunctS.f
  rw [if_pos rfl]
  refine up_loop0 (fun k (_ : Unit) i => laws_eqPunctS.l0 k l l (i : Int)) l.length (fun _ _ => True) (fun r => r = some true) ?_ ?_ k () trivial hk
  · rintro k _ i hi _
    left
    refine ⟨(), trivial, ?_⟩
    simp only [laws_eqPunctS.l0, laws_eqPunct.f, bne_self_eq_false, Bool.false_eq_true, if_true, if_false, Option.bind_some]
    rw [if_pos (by omega), if_pos (by omega), if_pos (by omega), w64 (by omega) (by omega)]
    simp
  · rintro k _ _
    simp only [laws_eqPunctS.l0]
    rw [if_neg (by omega)]

theorem here_ev (N : Int) (l : List Int) (a : Int) : spec_l01Here.f N l a = some (here N a) := by
  unfold spec_l01Here.f here
  by_cases c : a ≥ 0
  · rw [if_pos c, decide_eq_true (show 0 ≤ a from c)]; rfl
  · rw [if_neg c, decide_eq_false (show ¬ 0 ≤ a from c)]; rfl
def cmpv (a b : Int) : Int := if a < b then -1 else if a > b then 1 else 0
theorem cmp_eq (a b : Int) : cmp_Compare_int.f a b = some (cmpv a b) := by
  unfold cmp_Compare_int.f cmp_isNaN_int.f cmpv
  simp only [bne_self_eq_false, Option.bind_some, Bool.false_eq_true, if_false]
  by_cases c : a < b
  · rw [if_pos c, if_pos c]
  · rw [if_neg c, if_neg c]
    by_cases d : a > b
    · rw [if_pos d, if_pos d]
    · rw [if_neg d, if_neg d]
def orv (a b c : Int) : Int := if a = 0 then (if b = 0 then c else b) else a
theorem or_ev (a b c : Int) : Evt (fun k => cmp_Or_int.f k [a, b, c]) (orv a b c) := by
  refine ⟨4, fun k hk => ?_⟩
  obtain ⟨j, rfl⟩ : ∃ j, k = j + 4 := ⟨k - 4, by omega⟩
  show cmp_Or_int.l0 (j + 4) 0 [a, b, c] 3 0 = _
  have r0 : rd [a, b, c] 0 = a := rfl
  have r1 : rd [a, b, c] 1 = b := rfl
  have r2 : rd [a, b, c] 2 = c := rfl
  have w0 : wrap64 (0 + 1) = 1 := by decide +kernel
  have w1 : wrap64 (1 + 1) = 2 := by decide +kernel
  have w2 : wrap64 (2 + 1) = 3 := by decide +kernel
  have hl : (([a, b, c] : List Int).length : Int) = 3 := rfl
  unfold orv
  simp only [cmp_Or_int.l0, r0, r1, r2, w0, w1, w2, hl]
  simp only [show (0 : Int) < 3 by decide, show (1 : Int) < 3 by decide, show (2 : Int) < 3 by decide, show ¬ (3 : Int) < 3 by decide, show (0 : Int) ≤ 0 by decide, show (0 : Int) ≤ 1 by decide, show (0 : Int) ≤ 2 by decide, if_true, if_false]
  by_cases h1 : a = 0
  · rw [if_pos h1, if_pos h1]
    by_cases h2 : b = 0
    · rw [if_pos h2, if_pos h2]
      by_cases h3 : c = 0
      · rw [if_pos h3, h3]
      · rw [if_neg h3]
    · rw [if_neg h2, if_neg h2]
  · rw [if_neg h1, if_neg h1]
def lessB (p q : S58) : Bool := if p.f0 = q.f0 then (if p.f1 = q.f1 then decide (p.f2 < q.f2) else decide (p.f1 < q.f1)) else decide (p.f0 < q.f0)
def cmpP (p q : S58) : Int := orv (cmpv p.f0 q.f0) (cmpv p.f1 q.f1) (cmpv p.f2 q.f2)
theorem cmpP_less (p q : S58) : cmpP p q ≥ 0 ↔ lessB p q = false := by
  have h : ∀ a b : Int, (cmpv a b = 0 ↔ a = b) ∧ (cmpv a b ≥ 0 ↔ ¬ a < b) := by
    intro a b
    unfold cmpv
    by_cases c : a < b
    · rw [if_pos c]; exact ⟨by constructor <;> intro h <;> omega, by constructor <;> intro h <;> omega⟩
    · rw [if_neg c]
      by_cases d : a > b
      · rw [if_pos d]; exact ⟨by constructor <;> intro h <;> omega, by constructor <;> intro h <;> omega⟩
      · rw [if_neg d]; exact ⟨by constructor <;> intro h <;> omega, by constructor <;> intro h <;> omega⟩
  unfold cmpP orv lessB
  by_cases c0 : p.f0 = q.f0
  · rw [if_pos ((h _ _).1.mpr c0), if_pos c0]
    by_cases c1 : p.f1 = q.f1
    · rw [if_pos ((h _ _).1.mpr c1), if_pos c1, (h _ _).2]
      simp
    · rw [if_neg (fun e => c1 ((h _ _).1.mp e)), if_neg c1, (h _ _).2]
      simp
  · rw [if_neg (fun e => c0 ((h _ _).1.mp e)), if_neg c0, (h _ _).2]
    simp
theorem compare_ev (p q : S58) : Evt (fun k => impl_comparePuncts.f k p.f0 p.f1 p.f2 p.f3 q.f0 q.f1 q.f2 q.f3) (cmpP p q) := by
  refine (or_ev (cmpv p.f0 q.f0) (cmpv p.f1 q.f1) (cmpv p.f2 q.f2)).congr fun k => ?_
  unfold impl_comparePuncts.f
  rw [cmp_eq, cmp_eq, cmp_eq]
  simp only [Option.bind_some]
  cases cmp_Or_int.f k _ <;> rfl
theorem less_eq (p q : S58) : spec_l04Less.f p.f0 p.f1 p.f2 p.f3 q.f0 q.f1 q.f2 q.f3 = some (lessB p q) := by
  unfold spec_l04Less.f lessB
  by_cases c0 : p.f0 = q.f0
  · rw [if_pos c0, if_pos c0]
    by_cases c1 : p.f1 = q.f1
    · rw [if_pos c1, if_pos c1]
    · rw [if_neg c1, if_neg c1]
  · rw [if_neg c0, if_neg c0]
def rightP (p : S58) : Bool := rightB p.f0 p.f1 p.f2
def polq (N : Int) (list : List S58) (i : Int) : Bool := (rightP (rd_T58 list i) && here N (rd_T58 list i).f3) && (decide (i = 0) || lessB (rd_T58 list (i - 1)) (rd_T58 list i))
def polB (N : Int) (list : List S58) : Bool := allB (polq N list) list.length 0
theorem impl_pol {N : Int} (hN : 1 ≤ N ∧ N ≤ 16) (l : List Int) (list : List S58) (hl : list.length ≤ 1048576) : Evt (fun k => impl_isPolicy.f k N l list) (if polB N list = true then decide ((list.length : Int) ≤ 12) else false) := by
  refine Evt.allx (L := fun i k => impl_isPolicy.l0 k list list (list.length : Int) i N l) (N := (list.length : Int)) ?_ ?_ list.length 0 (Int.le_refl 0) (by omega)
  · exact Evt.done fun k => by simp only [impl_isPolicy.l0]; rw [if_neg (by omega)]
  · intro i i0 hi r hr
    have e1 : ∀ k, impl_isPolicy.l0 (k + 1) list list (list.length : Int) i N l = if (rightP (rd_T58 list i) && here N (rd_T58 list i).f3) = true then (if i > 0 then ((impl_comparePuncts.f k (rd_T58 list (i - 1)).f0 (rd_T58 list (i - 1)).f1 (rd_T58 list (i - 1)).f2 (rd_T58 list (i - 1)).f3 (rd_T58 list i).f0 (rd_T58 list i).f1 (rd_T58 list i).f2 (rd_T58 list i).f3).bind fun t => if t ≥ 0 then some false else impl_isPolicy.l0 k list list (list.length : Int) (i + 1) N l) else impl_isPolicy.l0 k list list (list.length : Int) (i + 1) N l) else some false := fun k => by
      simp only [impl_isPolicy.l0]
      rw [if_pos hi, if_pos i0, if_pos hi, isPunct_eq hN, w64 (show -9223372036854775808 ≤ i + 1 by omega) (by omega), w64 (show -9223372036854775808 ≤ i - 1 by omega) (by omega)]
      simp only [Option.bind_some]
      by_cases c : i > 0
      · rw [if_pos c, if_pos c, if_pos (show 0 ≤ i - 1 by omega), if_pos (show i - 1 < (list.length : Int) by omega)]
        rfl
      · rw [if_neg c, if_neg c]
        rfl
    have hin : Evt (fun k => if i > 0 then ((impl_comparePuncts.f k (rd_T58 list (i - 1)).f0 (rd_T58 list (i - 1)).f1 (rd_T58 list (i - 1)).f2 (rd_T58 list (i - 1)).f3 (rd_T58 list i).f0 (rd_T58 list i).f1 (rd_T58 list i).f2 (rd_T58 list i).f3).bind fun t => if t ≥ 0 then some false else impl_isPolicy.l0 k list list (list.length : Int) (i + 1) N l) else impl_isPolicy.l0 k list list (list.length : Int) (i + 1) N l) (if (decide (i = 0) || lessB (rd_T58 list (i - 1)) (rd_T58 list i)) = true then r else false) := by
      by_cases c : i > 0
      · refine Evt.congr ?_ fun k => if_pos c
        rw [decide_eq_false (show ¬ i = 0 by omega), Bool.false_or]
        refine Evt.bind (g := fun t k => if t ≥ 0 then some false else impl_isPolicy.l0 k list list (list.length : Int) (i + 1) N l) (compare_ev (rd_T58 list (i - 1)) (rd_T58 list i)) ?_
        by_cases d : cmpP (rd_T58 list (i - 1)) (rd_T58 list i) ≥ 0
        · rw [(cmpP_less _ _).mp d]
          exact (Evt.const false).congr fun k => if_pos d
        · have : lessB (rd_T58 list (i - 1)) (rd_T58 list i) = true := by
            cases h : lessB (rd_T58 list (i - 1)) (rd_T58 list i) with
            | true => rfl
            | false => exact absurd ((cmpP_less _ _).mpr h) d
          rw [this]
          exact hr.congr fun k => if_neg d
      · have : i = 0 := by omega
        rw [decide_eq_true this, Bool.true_or, if_pos rfl]
        exact hr.congr fun k => if_neg c
    have s := Evt.ite (f := fun k => impl_isPolicy.l0 k list list (list.length : Int) i N l) hin (Evt.const false) e1
    unfold polq
    cases hc : (rightP (rd_T58 list i) && here N (rd_T58 list i).f3) <;> rw [hc] at s
    · simpa using s
    · simpa only [if_true, Bool.true_and] using s
theorem spec_pol (N : Int) (l : List Int) (list : List S58) (hl : list.length ≤ 1048576) : Evt (fun k => spec_PolicyOk.l0 k list 0 N l) (polB N list) := by
  have main : Evt (fun k => spec_PolicyOk.l0 k list 0 N l) (if polB N list = true then true else false) := by
    refine Evt.allx (L := fun i k => spec_PolicyOk.l0 k list i N l) (N := (list.length : Int)) ?_ ?_ list.length 0 (Int.le_refl 0) (by omega)
    · exact Evt.done fun k => by simp only [spec_PolicyOk.l0]; rw [if_neg (by omega)]
    · intro i i0 hi r hr
      have e1 : ∀ k, spec_PolicyOk.l0 (k + 1) list i N l = if here N (rd_T58 list i).f3 = true then ((spec_l04Right.f k (rd_T58 list i).f0 (rd_T58 list i).f1 (rd_T58 list i).f2 (rd_T58 list i).f3).bind fun t => if t = true then (if (decide (i = 0) || lessB (rd_T58 list (i - 1)) (rd_T58 list i)) = true then spec_PolicyOk.l0 k list (i + 1) N l else some false) else some false) else some false := fun k => by
        simp only [spec_PolicyOk.l0]
        rw [if_pos hi, if_pos i0, here_ev, less_eq, w64 (show -9223372036854775808 ≤ i + 1 by omega) (by omega), w64 (show -9223372036854775808 ≤ i - 1 by omega) (by omega)]
        simp only [Option.bind_some]
        by_cases c : i > 0
        · rw [if_pos c, if_pos (show 0 ≤ i - 1 by omega), if_pos (show i - 1 < (list.length : Int) by omega), decide_eq_false (show ¬ i = 0 by omega), Bool.false_or]
        · rw [if_neg c, decide_eq_true (show i = 0 by omega), Bool.true_or, if_pos rfl]
      have hin : Evt (fun k => (spec_l04Right.f k (rd_T58 list i).f0 (rd_T58 list i).f1 (rd_T58 list i).f2 (rd_T58 list i).f3).bind fun t => if t = true then (if (decide (i = 0) || lessB (rd_T58 list (i - 1)) (rd_T58 list i)) = true then spec_PolicyOk.l0 k list (i + 1) N l else some false) else some false) (if (rightP (rd_T58 list i) && (decide (i = 0) || lessB (rd_T58 list (i - 1)) (rd_T58 list i))) = true then r else false) := by
        refine Evt.bind (g := fun t k => if t = true then (if (decide (i = 0) || lessB (rd_T58 list (i - 1)) (rd_T58 list i)) = true then spec_PolicyOk.l0 k list (i + 1) N l else some false) else some false) (right_ev (rd_T58 list i).f0 (rd_T58 list i).f1 (rd_T58 list i).f2 (rd_T58 list i).f3) ?_
        unfold rightP
        cases rightB (rd_T58 list i).f0 (rd_T58 list i).f1 (rd_T58 list i).f2 with
        | false => exact (Evt.const false).congr fun k => if_neg (by decide)
        | true =>
          rw [Bool.true_and]
          refine Evt.congr ?_ fun k => if_pos rfl
          cases (decide (i = 0) || lessB (rd_T58 list (i - 1)) (rd_T58 list i)) with
          | false => exact (Evt.const false).congr fun k => if_neg (by decide)
          | true => exact hr.congr fun k => if_pos rfl
      have s := Evt.ite (f := fun k => spec_PolicyOk.l0 k list i N l) hin (Evt.const false) e1
      have eq : polq N list i = (here N (rd_T58 list i).f3 && (rightP (rd_T58 list i) && (decide (i = 0) || lessB (rd_T58 list (i - 1)) (rd_T58 list i)))) := by
        unfold polq
        rw [Bool.and_comm (rightP _), Bool.and_assoc]
      rw [eq]
      cases hc : here N (rd_T58 list i).f3 <;> rw [hc] at s
      · simpa using s
      · simpa only [if_true, Bool.true_and] using s
  cases hx : polB N list <;> rw [hx] at main <;> exact main
/-- Both say the same of every policy. -/
theorem both_pol (N : Int) (l : List Int) (hb : ∀ x ∈ l, 0 ≤ x ∧ x ≤ 18446744073709551615) (list : List S58) (hl : list.length ≤ 1048576) :
    ∃ r, Evt (fun k => spec_PolicyOk.f k N l list) r ∧ Evt (fun k => impl_PolicyOk.f k N l list) r ∧ (r = true → (Lab N l ∧ okI l N = true) ∧ polB N list = true ∧ list.length ≤ 12 ∧ Evt (fun k => spec_LatOk.f k N l) true) := by
  obtain ⟨r, h1, h2, h3⟩ := both_ok N l hb
  refine ⟨r && (polB N list && decide ((list.length : Int) ≤ 12)), ?_, ?_, ?_⟩
  · refine Evt.bind (f := fun k => spec_LatOk.f k N l) (g := fun t k => if t = true then spec_PolicyOk.j0 k list (decide ((list.length : Int) > 12)) N l else spec_PolicyOk.j0 k list true N l) h1 ?_
    have hj : ∀ b, Evt (fun k => spec_PolicyOk.j0 k list b N l) (polB N list && !b) := by
      intro b
      cases b with
      | true => rw [Bool.not_true, Bool.and_false]; exact Evt.done fun k => by simp only [spec_PolicyOk.j0, if_true]
      | false => rw [Bool.not_false, Bool.and_true]; exact Evt.step (spec_pol N l list hl) fun k => by simp only [spec_PolicyOk.j0, Bool.false_eq_true, if_false]
    cases r with
    | false =>
      have s := hj true
      rw [Bool.not_true, Bool.and_false] at s
      exact s.congr fun k => if_neg (by decide)
    | true =>
      have s := hj (decide ((list.length : Int) > 12))
      have e : (!decide ((list.length : Int) > 12)) = decide ((list.length : Int) ≤ 12) := by
        by_cases c : (list.length : Int) ≤ 12
        · rw [decide_eq_true c, decide_eq_false (by omega)]; rfl
        · rw [decide_eq_false c, decide_eq_true (by omega)]; rfl
      rw [e] at s
      exact s.congr fun k => if_pos rfl
  · refine Evt.bind (f := fun k => impl_isLat.f k N l) (g := fun t k => if t = true then ((impl_isPolicy.f k N l list).bind fun t => some t) else some false) h2 ?_
    cases r with
    | false => exact (Evt.const _).congr fun k => if_neg (by decide)
    | true =>
      have L := (h3 rfl).1
      have s := impl_pol ⟨L.n1, L.n2⟩ l list hl
      have e : (if polB N list = true then decide ((list.length : Int) ≤ 12) else false) = (true && (polB N list && decide ((list.length : Int) ≤ 12))) := by
        cases polB N list <;> rfl
      rw [e] at s
      exact s.congr fun k => by simp only [if_true]; cases impl_isPolicy.f k N l list <;> rfl
  · intro h
    simp only [Bool.and_eq_true, decide_eq_true_eq] at h
    obtain ⟨a, b, c⟩ := h
    exact ⟨h3 a, b, by omega, a ▸ h1⟩
theorem szPunct_eq (l : List S56) (hl : l.length ≤ 9223372036854775807) (a : Int) (ha : 0 ≤ a ∧ a ≤ 1048576) : laws_szPunctS.f l a = some (if a < l.length then (-1 : Int) else (a - l.length : Int)) := by
  unfold laws_szPunctS.f
  rw [w64 (by omega) (by omega)]
  by_cases h : a < l.length
  · rw [if_pos (by omega), if_pos h]
  · rw [if_neg (by omega), if_neg h]

theorem less_iff (p q : S58) : lessB p q = true ↔ p.f0 < q.f0 ∨ (p.f0 = q.f0 ∧ (p.f1 < q.f1 ∨ (p.f1 = q.f1 ∧ p.f2 < q.f2))) := by
  unfold lessB
  by_cases c : p.f0 = q.f0
  · rw [if_pos c]
    by_cases d : p.f1 = q.f1
    · rw [if_pos d, decide_eq_true_eq]; omega
    · rw [if_neg d, decide_eq_true_eq]; omega
  · rw [if_neg c, decide_eq_true_eq]; omega
def oneB (p q : S58) : Bool := decide (p.f0 = q.f0) && (decide (p.f1 = q.f1) && decide (p.f2 = q.f2))
theorem one_iff (p q : S58) : oneB p q = true ↔ p.f0 = q.f0 ∧ p.f1 = q.f1 ∧ p.f2 = q.f2 := by
  unfold oneB
  simp only [Bool.and_eq_true, decide_eq_true_eq]
theorem one_eq (p q : S58) : spec_l04One.f p.f0 p.f1 p.f2 p.f3 q.f0 q.f1 q.f2 q.f3 = some (oneB p q) := by
  unfold spec_l04One.f oneB
  by_cases c : p.f0 = q.f0
  · rw [if_pos c, decide_eq_true c]
    by_cases d : p.f1 = q.f1
    · rw [if_pos d, decide_eq_true d]
      by_cases e : p.f2 = q.f2
      · rw [decide_eq_true e, e]; simp
      · rw [decide_eq_false e]; simp [e]
    · rw [if_neg d, decide_eq_false d]; rfl
  · rw [if_neg c, decide_eq_false c]; rfl
theorem cmp_neg (p q : S58) : decide (cmpP p q < 0) = lessB p q := by
  have h := cmpP_less p q
  cases hb : lessB p q with
  | true => exact decide_eq_true (by rw [hb] at h; simp at h; omega)
  | false => exact decide_eq_false (by rw [hb] at h; simp at h; omega)
theorem cmpv3 (a b : Int) : (a < b ∧ cmpv a b = -1) ∨ (a = b ∧ cmpv a b = 0) ∨ (b < a ∧ cmpv a b = 1) := by
  unfold cmpv
  by_cases c : a < b
  · rw [if_pos c]; omega
  · rw [if_neg c]
    by_cases d : a > b
    · rw [if_pos d]; omega
    · rw [if_neg d]; omega
theorem cmp_zero (p q : S58) : (cmpP p q == 0) = oneB p q := by
  rw [Bool.eq_iff_iff, one_iff, beq_iff_eq]
  unfold cmpP orv
  rcases cmpv3 p.f0 q.f0 with ⟨a, e⟩ | ⟨a, e⟩ | ⟨a, e⟩ <;> rw [e]
  · rw [if_neg (by decide)]; omega
  · rw [if_pos rfl]
    rcases cmpv3 p.f1 q.f1 with ⟨b, g⟩ | ⟨b, g⟩ | ⟨b, g⟩ <;> rw [g]
    · rw [if_neg (by decide)]; omega
    · rw [if_pos rfl]
      rcases cmpv3 p.f2 q.f2 with ⟨c, h⟩ | ⟨c, h⟩ | ⟨c, h⟩ <;> rw [h] <;> omega
    · rw [if_neg (by decide)]; omega
  · rw [if_neg (by decide)]; omega
theorem pol_sorted {N : Int} {list : List S58} (h : polB N list = true) : ∀ (d i : Nat), i + d + 1 < list.length → lessB (rd_T58 list (i : Int)) (rd_T58 list ((i + d + 1 : Nat) : Int)) = true
  | 0, i, hi => by
    have := (allB_iff _ _ _).mp h ((i + 1 : Nat) : Int) (by omega) (by omega)
    unfold polq at this
    simp only [Bool.and_eq_true, Bool.or_eq_true, decide_eq_true_eq] at this
    rcases this.2 with e | e
    · omega
    · rw [show ((i + 1 : Nat) : Int) - 1 = (i : Int) by omega] at e
      exact e
  | d + 1, i, hi => by
    have a := pol_sorted h d i (by omega)
    have b := pol_sorted h 0 (i + d + 1) (by omega)
    rw [less_iff] at *
    rw [show i + (d + 1) + 1 = i + d + 1 + 0 + 1 by omega]
    omega
theorem pol_lt {N : Int} {list : List S58} (h : polB N list = true) (i j : Nat) (hij : i < j) (hj : j < list.length) : lessB (rd_T58 list (i : Int)) (rd_T58 list (j : Int)) = true := by
  have := pol_sorted h (j - i - 1) i (by omega)
  rwa [show i + (j - i - 1) + 1 = j by omega] at this
/-- The search: all ahead of the place found are less, none from there on. -/
theorem search_ev {N : Int} {list : List S58} (h : polB N list = true) (hl : list.length ≤ 12) (p : S58) : ∀ (m i j : Nat), j - i ≤ m → i ≤ j → j ≤ list.length →
    (∀ t : Nat, t < i → lessB (rd_T58 list (t : Int)) p = true) → (∀ t : Nat, j ≤ t → t < list.length → lessB (rd_T58 list (t : Int)) p = false) →
    ∃ t : Nat, t ≤ list.length ∧ (∀ q : Nat, q < t → lessB (rd_T58 list (q : Int)) p = true) ∧ (∀ q : Nat, t ≤ q → q < list.length → lessB (rd_T58 list (q : Int)) p = false) ∧
      Evt (fun k => impl_Punct_111.l0 k list (list.length : Int) (i : Int) (j : Int) p.f0 p.f1 p.f2 p.f3) ((t : Int), if t < list.length then oneB (rd_T58 list (t : Int)) p else false) := by
  intro m
  induction m with
  | zero =>
    intro i j hd hij hj h1 h2
    obtain rfl : i = j := by omega
    refine ⟨i, hj, h1, h2, ?_⟩
    by_cases c : i < list.length
    · rw [if_pos c]
      have hc := compare_ev (rd_T58 list (i : Int)) p
      refine Evt.step (g := fun k => (impl_comparePuncts.f k (rd_T58 list (i : Int)).f0 (rd_T58 list (i : Int)).f1 (rd_T58 list (i : Int)).f2 (rd_T58 list (i : Int)).f3 p.f0 p.f1 p.f2 p.f3).bind fun t263 => some ((i : Int), (t263 == 0))) (Evt.bind (g := fun t263 _ => some ((i : Int), (t263 == 0))) hc (by rw [cmp_zero]; exact Evt.const _)) fun k => ?_
      simp only [impl_Punct_111.l0]
      rw [if_neg (by omega), if_pos (by omega), if_pos (by omega), if_pos (by omega)]
    · rw [if_neg c]
      refine Evt.done fun k => ?_
      simp only [impl_Punct_111.l0]
      rw [if_neg (by omega), if_neg (by omega)]
  | succ m ih =>
    intro i j hd hij hj h1 h2
    by_cases e : i = j
    · exact ih i j (by omega) hij hj h1 h2
    · obtain ⟨q, hq⟩ : ∃ q : Nat, q = (i + j) / 2 := ⟨_, rfl⟩
      have hw : wrap64 (IntKind.u64.wrap (wrap64 ((i : Int) + (j : Int))) / 2) = (q : Int) := by
        rw [w64 (i := (i : Int) + j) (by omega) (by omega), wu64, Int.emod_eq_of_lt (by omega) (by omega), w64 (by omega) (by omega)]
        omega
      have hc := compare_ev (rd_T58 list (q : Int)) p
      have key : ∀ (r : Int × Bool), Evt (fun k => if lessB (rd_T58 list (q : Int)) p = true then impl_Punct_111.l0 k list (list.length : Int) ((q + 1 : Nat) : Int) (j : Int) p.f0 p.f1 p.f2 p.f3 else impl_Punct_111.l0 k list (list.length : Int) (i : Int) (q : Int) p.f0 p.f1 p.f2 p.f3) r → Evt (fun k => impl_Punct_111.l0 k list (list.length : Int) (i : Int) (j : Int) p.f0 p.f1 p.f2 p.f3) r := fun r hr => by
        refine Evt.step (g := fun k => (impl_comparePuncts.f k (rd_T58 list (q : Int)).f0 (rd_T58 list (q : Int)).f1 (rd_T58 list (q : Int)).f2 (rd_T58 list (q : Int)).f3 p.f0 p.f1 p.f2 p.f3).bind fun t261 => if t261 < 0 then impl_Punct_111.l0 k list (list.length : Int) ((q + 1 : Nat) : Int) (j : Int) p.f0 p.f1 p.f2 p.f3 else impl_Punct_111.l0 k list (list.length : Int) (i : Int) (q : Int) p.f0 p.f1 p.f2 p.f3) (Evt.bind (g := fun t261 k => if t261 < 0 then impl_Punct_111.l0 k list (list.length : Int) ((q + 1 : Nat) : Int) (j : Int) p.f0 p.f1 p.f2 p.f3 else impl_Punct_111.l0 k list (list.length : Int) (i : Int) (q : Int) p.f0 p.f1 p.f2 p.f3) hc (hr.congr fun k => ?_)) fun k => ?_
        · have := cmp_neg (rd_T58 list (q : Int)) p
          cases hb : lessB (rd_T58 list (q : Int)) p with
          | true => rw [hb] at this; rw [if_pos (of_decide_eq_true this), if_pos rfl]
          | false => rw [hb] at this; rw [if_neg (of_decide_eq_false this), if_neg (by decide)]
        · have w1 : wrap64 ((q : Int) + 1) = ((q + 1 : Nat) : Int) := (w64 (by omega) (by omega)).trans (by omega)
          simp only [impl_Punct_111.l0]
          rw [if_pos (by omega), hw, if_pos (by omega), if_pos (by omega), w1]
      cases hb : lessB (rd_T58 list (q : Int)) p with
      | true =>
        obtain ⟨t, t1, t2, t3, t4⟩ := ih (q + 1) j (by omega) (by omega) hj (fun t ht => by
          by_cases e : t = q
          · subst e; exact hb
          · have a := pol_lt h t q (by omega) (by omega)
            rw [less_iff] at *
            omega) h2
        exact ⟨t, t1, t2, t3, key _ (t4.congr fun k => by rw [hb, if_pos rfl])⟩
      | false =>
        obtain ⟨t, t1, t2, t3, t4⟩ := ih i q (by omega) (by omega) (by omega) h1 (fun t ht htl => by
          by_cases e : t = q
          · subst e; exact hb
          · have a := pol_lt h q t (by omega) htl
            rw [← Bool.not_eq_true, less_iff] at hb ⊢
            rw [less_iff] at a
            omega)
        exact ⟨t, t1, t2, t3, key _ (t4.congr fun k => by rw [hb, if_neg (by decide)])⟩
theorem rd_nat58 (xs : List S58) (i : Nat) (h : i < xs.length) : rd_T58 xs (i : Int) = xs[i] := getD_nat xs _ i h
/-- The reference's list without p. -/
theorem without_ev (list : List S58) (hl : list.length ≤ 1048576) (p : S58) : Evt (fun k => spec_l04Without.f k list p.f0 p.f1 p.f2 p.f3) (list.filter fun q => !oneB q p) := by
  have go : ∀ (m i : Nat) (out : List S58), i + m = list.length → out.length ≤ i → Evt (fun k => spec_l04Without.l0 k list out (i : Int) p.f0 p.f1 p.f2 p.f3) (out ++ (list.drop i).filter fun q => !oneB q p) := by
    intro m
    induction m with
    | zero =>
      intro i out hi ho
      refine Evt.done fun k => ?_
      simp only [spec_l04Without.l0]
      rw [if_neg (by omega), List.drop_of_length_le (by omega), List.filter_nil, List.append_nil]
    | succ m ih =>
      intro i out hi ho
      have hi' : i < list.length := by omega
      have w : wrap64 ((i : Int) + 1) = ((i + 1 : Nat) : Int) := (w64 (by omega) (by omega)).trans (by omega)
      have ed : list.drop i = rd_T58 list (i : Int) :: list.drop (i + 1) := by rw [rd_nat58 list i hi']; exact List.drop_eq_getElem_cons hi'
      cases hb : oneB (rd_T58 list (i : Int)) p with
      | true =>
        have s := ih (i + 1) out (by omega) (by omega)
        rw [ed, List.filter_cons, hb]
        refine Evt.step s fun k => ?_
        simp only [spec_l04Without.l0]
        rw [if_pos (by omega), if_pos (by omega), one_eq, Option.bind_some, hb, if_pos rfl, w]
      | false =>
        have s := ih (i + 1) (out ++ [rd_T58 list (i : Int)]) (by omega) (by rw [List.length_append]; simp only [List.length_cons, List.length_nil]; omega)
        rw [List.append_assoc] at s
        rw [ed, List.filter_cons, hb]
        refine Evt.step s fun k => ?_
        simp only [spec_l04Without.l0]
        rw [if_pos (by omega), if_pos (by omega), one_eq, Option.bind_some, hb, if_neg (by decide), if_pos (by omega), w]
  exact go list.length 0 [] (by omega) (by simp)
theorem filter_here {N : Int} {list : List S58} (h : polB N list = true) (p : S58) (t : Nat) (ht : t ≤ list.length) (h1 : ∀ q : Nat, q < t → lessB (rd_T58 list (q : Int)) p = true) (h2 : ∀ q : Nat, t ≤ q → q < list.length → lessB (rd_T58 list (q : Int)) p = false) :
    (list.filter fun q => !oneB q p) = (if (if t < list.length then oneB (rd_T58 list (t : Int)) p else false) = true then list.take t ++ list.drop (t + 1) else list) := by
  have a : (list.take t).filter (fun q => !oneB q p) = list.take t := by
    refine List.filter_eq_self.mpr fun q hq => ?_
    obtain ⟨i, hi, rfl⟩ := List.getElem_of_mem hq
    rw [List.length_take] at hi
    rw [List.getElem_take, ← rd_nat58 list i (by omega)]
    have := h1 i (by omega)
    rw [less_iff] at this
    rw [Bool.not_eq_true', ← Bool.not_eq_true, one_iff]
    omega
  have b : ∀ s : Nat, t ≤ s → (s = t → oneB (rd_T58 list (t : Int)) p = false) → (list.drop s).filter (fun q => !oneB q p) = list.drop s := by
    intro s hs hst
    refine List.filter_eq_self.mpr fun q hq => ?_
    obtain ⟨i, hi, rfl⟩ := List.getElem_of_mem hq
    rw [List.length_drop] at hi
    rw [List.getElem_drop, ← rd_nat58 list (s + i) (by omega), Bool.not_eq_true']
    by_cases e : s + i = t
    · rw [e]; exact hst (by omega)
    · have c := pol_lt h t (s + i) (by omega) (by omega)
      have d := h2 t (Nat.le_refl _) (by omega)
      rw [← Bool.not_eq_true, less_iff] at d
      rw [less_iff] at c
      rw [← Bool.not_eq_true, one_iff]
      omega
  have e : list = list.take t ++ list.drop t := (List.take_append_drop t list).symm
  by_cases c : t < list.length
  · rw [if_pos c]
    cases hb : oneB (rd_T58 list (t : Int)) p with
    | true =>
      rw [if_pos rfl]
      conv => lhs; rw [e, List.filter_append, a, List.drop_eq_getElem_cons c, List.filter_cons, ← rd_nat58 list t c, hb]
      rw [b (t + 1) (by omega) (by omega)]
      simp
    | false =>
      rw [if_neg (by decide)]
      conv => lhs; rw [e, List.filter_append, a, b t (Nat.le_refl _) (fun _ => hb)]
      exact e.symm
  · rw [if_neg c, if_neg (by decide)]
    conv => lhs; rw [e, List.filter_append, a, List.drop_of_length_le (by omega)]
    rw [List.take_of_length_le (by omega)]; simp
theorem punct_ev (N : Int) (l : List Int) (h : Evt (fun k => spec_LatOk.f k N l) true) (p : S58) : Evt (fun k => spec_PunctOk.f k N l p.f0 p.f1 p.f2 p.f3) (rightB p.f0 p.f1 p.f2 && here N p.f3) := by
  refine Evt.bind (f := fun k => spec_l01Label.f k N l p.f3) (g := fun t k => if t = true then ((spec_l04Right.f k p.f0 p.f1 p.f2 p.f3).bind fun t => some t) else some false) (x := here N p.f3) ?_ ?_
  · refine Evt.bind (f := fun k => spec_LatOk.f k N l) (g := fun t _ => if t = true then (if p.f3 ≥ 0 then some (decide (p.f3 < N)) else some false) else some false) h ?_
    refine (Evt.const _).congr fun k => ?_
    unfold here
    rw [if_pos rfl]
    by_cases c : p.f3 ≥ 0
    · rw [if_pos c, decide_eq_true (show 0 ≤ p.f3 from c), Bool.true_and]
    · rw [if_neg c, decide_eq_false (show ¬ 0 ≤ p.f3 from c), Bool.false_and]
  · have s := right_ev p.f0 p.f1 p.f2 p.f3
    cases hh : here N p.f3 with
    | false => rw [Bool.and_false]; exact (Evt.const _).congr fun k => if_neg (by decide)
    | true =>
      rw [Bool.and_true]
      exact s.congr fun k => by rw [if_pos rfl]; cases spec_l04Right.f k p.f0 p.f1 p.f2 p.f3 <;> rfl
/-- The reference's place in the list. -/
theorem place_ev (rest : List S58) (hl : rest.length ≤ 12) (p : S58) (t : Nat) (ht : t ≤ rest.length) (h1 : ∀ q : Nat, q < t → lessB (rd_T58 rest (q : Int)) p = true) (h2 : t < rest.length → lessB (rd_T58 rest (t : Int)) p = false) :
    ∀ (m i : Nat), i + m = t → Evt (fun k => spec_PolicySet.l0 k rest (i : Int) p.f0 p.f1 p.f2 p.f3) (rest.take t ++ [p] ++ rest.drop t, true) := by
  have e3 : (rest.take t).length = t := by rw [List.length_take]; omega
  have e4 : (rest.take t ++ [p]).length = t + 1 := by rw [List.length_append, e3]; rfl
  have hT : spec_PolicySet.t (rest.take t ++ [p]) (rest.drop t) = some (rest.take t ++ [p] ++ rest.drop t, true) := by
    unfold spec_PolicySet.t
    rw [if_pos (by rw [e4, List.length_drop]; omega)]
  intro m
  induction m with
  | zero =>
    intro i hi
    obtain rfl : i = t := by omega
    refine Evt.done fun k => ?_
    simp only [spec_PolicySet.l0]
    by_cases c : i < rest.length
    · rw [if_pos (by omega), if_pos (by omega), less_eq, Option.bind_some, h2 c, if_neg (by decide), Option.bind_some, if_pos (by omega), Int.toNat_natCast, Option.bind_some, if_pos (by rw [e3]; simp; omega), Option.bind_some, Option.bind_some, List.nil_append]
      rw [if_pos (by rw [e3]; simp; omega)]
      exact hT
    · rw [if_neg (by omega), Option.bind_some, if_pos (by omega), if_pos (by omega), Int.toNat_natCast, Option.bind_some, if_pos (by rw [e3]; simp; omega), Option.bind_some, Option.bind_some, List.nil_append]
      rw [if_pos (by rw [e3]; simp; omega)]
      exact hT
  | succ m ih =>
    intro i hi
    have w : wrap64 ((i : Int) + 1) = ((i + 1 : Nat) : Int) := (w64 (by omega) (by omega)).trans (by omega)
    refine Evt.step (ih (i + 1) (by omega)) fun k => ?_
    simp only [spec_PolicySet.l0]
    rw [if_pos (by omega), if_pos (by omega), less_eq, Option.bind_some, h1 i (by omega), if_pos rfl, w]
theorem set_both (N : Int) (l : List Int) (hb : ∀ x ∈ l, 0 ≤ x ∧ x ≤ 18446744073709551615) (list : List S58) (hl : list.length ≤ 1048576) (p : S58) :
    ∃ (u : List S58) (f : Bool), u.length ≤ 1048576 ∧ Evt (fun k => spec_PolicySet.f k N l list p.f0 p.f1 p.f2 p.f3) (u, f) ∧ Evt (fun k => impl_PolicySet.f k N l list p.f0 p.f1 p.f2 p.f3) (u, f) := by
  obtain ⟨r, h1, h2, h3⟩ := both_pol N l hb list hl
  have hw := without_ev list hl p
  have sp : ∀ x, Evt (fun k => if r = true then ((spec_PunctOk.f k N l p.f0 p.f1 p.f2 p.f3).bind fun t214 => spec_PolicySet.j0 k list (!t214) p.f0 p.f1 p.f2 p.f3) else spec_PolicySet.j0 k list true p.f0 p.f1 p.f2 p.f3) x → Evt (fun k => spec_PolicySet.f k N l list p.f0 p.f1 p.f2 p.f3) x := fun x hx =>
    Evt.bind (f := fun k => spec_PolicyOk.f k N l list) (g := fun t213 k => if t213 = true then ((spec_PunctOk.f k N l p.f0 p.f1 p.f2 p.f3).bind fun t214 => spec_PolicySet.j0 k list (!t214) p.f0 p.f1 p.f2 p.f3) else spec_PolicySet.j0 k list true p.f0 p.f1 p.f2 p.f3) h1 hx
  have ip : ∀ x, Evt (fun k => if r = true then ((impl_isPunct.f N l p.f0 p.f1 p.f2 p.f3).bind fun t => if t = true then ((impl_policySet.f k list p.f0 p.f1 p.f2 p.f3).bind fun bt => some (bt.1, bt.2)) else some (([] : List S58), false)) else some (([] : List S58), false)) x → Evt (fun k => impl_PolicySet.f k N l list p.f0 p.f1 p.f2 p.f3) x := fun x hx =>
    Evt.bind (f := fun k => impl_PolicyOk.f k N l list) (g := fun t k => if t = true then ((impl_isPunct.f N l p.f0 p.f1 p.f2 p.f3).bind fun t => if t = true then ((impl_policySet.f k list p.f0 p.f1 p.f2 p.f3).bind fun bt => some (bt.1, bt.2)) else some (([] : List S58), false)) else some (([] : List S58), false)) h2 hx
  have jt : Evt (fun k => spec_PolicySet.j0 k list true p.f0 p.f1 p.f2 p.f3) (([] : List S58), false) := Evt.done fun k => by simp only [spec_PolicySet.j0, if_true]
  cases r with
  | false => exact ⟨[], false, by simp, sp _ (jt.congr fun k => by rw [if_neg (by decide)]), ip _ ((Evt.const _).congr fun k => by rw [if_neg (by decide)])⟩
  | true =>
    obtain ⟨⟨L, _⟩, hq, h12, hL⟩ := h3 rfl
    have hp := punct_ev N l hL p
    have hi := isPunct_eq ⟨L.n1, L.n2⟩ l p.f0 p.f1 p.f2 p.f3
    have sp2 : ∀ x, Evt (fun k => spec_PolicySet.j0 k list (!(rightB p.f0 p.f1 p.f2 && here N p.f3)) p.f0 p.f1 p.f2 p.f3) x → Evt (fun k => spec_PolicySet.f k N l list p.f0 p.f1 p.f2 p.f3) x := fun x hx =>
      sp _ ((Evt.bind (f := fun k => spec_PunctOk.f k N l p.f0 p.f1 p.f2 p.f3) (g := fun t214 k => spec_PolicySet.j0 k list (!t214) p.f0 p.f1 p.f2 p.f3) hp hx).congr fun k => if_pos rfl)
    cases hr : (rightB p.f0 p.f1 p.f2 && here N p.f3) with
    | false =>
      rw [hr] at sp2 hi
      exact ⟨[], false, by simp, sp2 _ jt, ip _ ((Evt.const _).congr fun k => by rw [if_pos rfl, hi, Option.bind_some, if_neg (by decide)])⟩
    | true =>
      rw [hr] at sp2 hi
      obtain ⟨t, t1, t2, t3, t4⟩ := search_ev hq h12 p list.length 0 list.length (by omega) (by omega) (Nat.le_refl _) (fun t ht => by omega) (fun t ht htl => by omega)
      have hf := filter_here hq p t t1 t2 t3
      generalize hbb : (if t < list.length then oneB (rd_T58 list (t : Int)) p else false) = b at t4 hf
      have ip2 : ∀ x, impl_policySet.g list p ((t : Int), b) = some x → Evt (fun k => impl_PolicySet.f k N l list p.f0 p.f1 p.f2 p.f3) x := fun x hx => by
        have hg : Evt (fun k => impl_policySet.f k list p.f0 p.f1 p.f2 p.f3) x := by
          have := Evt.bind (f := fun k => impl_Punct_111.f k list p.f0 p.f1 p.f2 p.f3 0) (g := fun b _ => impl_policySet.g list p b) t4 ((Evt.const x).congr fun k => hx)
          exact this.congr fun k => by unfold impl_policySet.f; rw [if_pos (by omega)]
        refine ip _ (hg.congr fun k => ?_)
        rw [if_pos rfl, hi, Option.bind_some, if_pos rfl]
        cases impl_policySet.f k list p.f0 p.f1 p.f2 p.f3 <;> rfl
      have sp3 : ∀ x, Evt (fun k => if ((list.filter fun q => !oneB q p).length : Int) = 12 then some (([] : List S58), false) else spec_PolicySet.l0 k (list.filter fun q => !oneB q p) 0 p.f0 p.f1 p.f2 p.f3) x → Evt (fun k => spec_PolicySet.f k N l list p.f0 p.f1 p.f2 p.f3) x := fun x hx =>
        sp2 _ (Evt.step (g := fun k => (spec_l04Without.f k list p.f0 p.f1 p.f2 p.f3).bind fun t215 => if (t215.length : Int) = 12 then some (([] : List S58), false) else spec_PolicySet.l0 k t215 0 p.f0 p.f1 p.f2 p.f3)
          (Evt.bind (f := fun k => spec_l04Without.f k list p.f0 p.f1 p.f2 p.f3) (g := fun t215 k => if (t215.length : Int) = 12 then some (([] : List S58), false) else spec_PolicySet.l0 k t215 0 p.f0 p.f1 p.f2 p.f3) hw hx)
          fun k => by simp only [spec_PolicySet.j0, Bool.not_true, Bool.false_eq_true, if_false])
      cases b with
      | false =>
        rw [if_neg (by decide)] at hf
        rw [hf] at sp3
        by_cases c : (list.length : Int) = 12
        · refine ⟨[], false, by simp, sp3 _ ((Evt.const _).congr fun k => if_pos c), ip2 _ ?_⟩
          unfold impl_policySet.g
          dsimp only
          rw [if_neg (by decide), if_pos c]
        · have hlen : (list.take t ++ [p] ++ list.drop t).length = list.length + 1 := by
            rw [List.length_append, List.length_append, List.length_take, List.length_drop, List.length_singleton]; omega
          refine ⟨list.take t ++ [p] ++ list.drop t, true, by omega, sp3 _ ((place_ev list h12 p t t1 t2 (fun h => t3 t (Nat.le_refl _) h) t 0 (by omega)).congr fun k => if_neg c), ip2 _ ?_⟩
          unfold impl_policySet.g
          dsimp only
          rw [if_neg (by decide), if_neg c, if_pos ⟨by omega, by omega, by omega⟩, Int.toNat_natCast]
      | true =>
        have c : t < list.length := by
          by_cases c : t < list.length
          · exact c
          · rw [if_neg c] at hbb; cases hbb
        rw [if_pos rfl] at hf
        obtain ⟨R, hR⟩ : ∃ R, R = list.take t ++ list.drop (t + 1) := ⟨_, rfl⟩
        rw [hf, ← hR] at sp3
        have e3 : (list.take t).length = t := by rw [List.length_take]; omega
        have hlen : R.length = list.length - 1 := by rw [hR, List.length_append, List.length_take, List.length_drop]; omega
        have ra : ∀ q : Nat, q < t → rd_T58 R (q : Int) = rd_T58 list (q : Int) := fun q hqt => by
          rw [rd_nat58 R q (by omega), rd_nat58 list q (by omega)]
          subst hR
          rw [List.getElem_append_left (by omega), List.getElem_take]
        have rb : t < R.length → rd_T58 R (t : Int) = rd_T58 list ((t + 1 : Nat) : Int) := fun hlt => by
          rw [rd_nat58 R t hlt, rd_nat58 list (t + 1) (by omega)]
          subst hR
          rw [List.getElem_append_right (by omega), List.getElem_drop]
          congr 1
          omega
        have pl := place_ev R (by omega) p t (by omega) (fun q hqt => by rw [ra q hqt]; exact t2 q hqt) (fun hlt => by rw [rb hlt]; exact t3 (t + 1) (by omega) (by omega)) t 0 (by omega)
        have es : R.take t ++ [p] ++ R.drop t = list.set t p := by
          rw [hR, List.take_left' e3, List.drop_left' e3, List.set_eq_take_append_cons_drop, if_pos c, List.append_assoc]
          rfl
        rw [es] at pl
        refine ⟨list.set t p, true, by rw [List.length_set]; omega, sp3 _ (pl.congr fun k => if_neg (by omega)), ip2 _ ?_⟩
        unfold impl_policySet.g
        rw [if_pos rfl, if_pos ⟨by omega, by omega⟩, Int.toNat_natCast]
def patUint64 (a : Int) (n : Nat) : List Int := (List.range n).map (fun j : Nat => (IntKind.u64.wrap ((a + 1 * (j : Int)))))
theorem markUint64S_step (xs : List Int) (z : Int) (i k : Nat) (hi : i < xs.length) (h0 : 0 ≤ z) (hz : z ≤ 1152921504606846976) (hl : xs.length ≤ 1152921504606846976) :
    laws_markUint64S.l0 (k + 1) xs z (i : Int) = laws_markUint64S.l0 k (xs.set i (IntKind.u64.wrap (z))) (z + 1) ((i + 1 : Nat) : Int) := by
  have v1 : wrap64 (z + 1) = z + 1 := (w64 (by omega) (by omega)).trans (by omega)
  have vi : wrap64 ((i : Int) + 1) = ((i + 1 : Nat) : Int) := (w64 (by omega) (by omega)).trans (by omega)
  simp only [laws_markUint64S.l0, Option.bind_some]
  rw [if_pos (by omega), if_pos (by omega)]
  simp only [v1, vi, rd, Int.toNat_natCast, List.set_set, List.getD_eq_getElem?_getD, List.getElem?_set_self hi, Option.getD_some]
theorem markUint64S_eq (l : List Int) (a : Int) (k : Nat) (hk : l.length < k) (h0 : 0 ≤ a) (ha : a ≤ 1000000000) (hb : l.length ≤ 4611686018427) : laws_markUint64S.f k l a = some (a + 1 * l.length, patUint64 a l.length) := by
  unfold laws_markUint64S.f
  refine up_loop0 (fun k (s : List Int × Int) i => laws_markUint64S.l0 k s.1 s.2 (i : Int)) l.length (fun i s => s.1.length = l.length ∧ s.1.take i = ((List.range l.length).take i).map (fun j : Nat => (IntKind.u64.wrap ((a + 1 * (j : Int))))) ∧ s.2 = a + 1 * (i : Int)) (fun r => r = some (a + 1 * l.length, patUint64 a l.length)) ?_ ?_ k (l, a) ?_ hk
  · rintro k ⟨xs, z⟩ i hi ⟨h1, h2, h3⟩
    simp only at h1 h2 h3
    left
    have hi' : i < (List.range l.length).length := by simpa using hi
    obtain ⟨h4, h5⟩ := copied_step (fun j : Nat => (IntKind.u64.wrap ((a + 1 * (j : Int))))) (List.range l.length) xs i hi' (by simpa using h1) h2
    refine ⟨(_, z + 1), ⟨?_, ?_, ?_⟩, markUint64S_step xs z i k (by omega) (by omega) (by omega) (by omega)⟩
    · simp only [List.length_set]
      exact h1
    · rw [List.getElem_range] at h5
      subst h3
      exact h5
    · simp only [h3]
      omega
  · rintro k ⟨xs, z⟩ ⟨h1, h2, h3⟩
    simp only at h1 h2 h3
    simp only [laws_markUint64S.l0]
    rw [if_neg (by omega)]
    have h4 := copied_end (fun j : Nat => (IntKind.u64.wrap ((a + 1 * (j : Int))))) (List.range l.length) xs (by simpa using h1) (by simpa using h2)
    rw [h3, h4]
    rfl
  · exact ⟨rfl, by simp, by simp⟩

def patPunct (a : Int) (n : Nat) : List S58 := (List.range n).map (fun j : Nat => (⟨(a + 4 * (j : Int)), (a + 4 * (j : Int)) + 1, (a + 4 * (j : Int)) + 2, (a + 4 * (j : Int)) + 3⟩ : S58))
theorem markPunctS_step (xs : List S58) (z : Int) (i k : Nat) (hi : i < xs.length) (h0 : 0 ≤ z) (hz : z ≤ 1152921504606846976) (hl : xs.length ≤ 1152921504606846976) :
    laws_markPunctS.l0 (k + 1) xs z (i : Int) = laws_markPunctS.l0 k (xs.set i (⟨z, z + 1, z + 2, z + 3⟩ : S58)) (z + 4) ((i + 1 : Nat) : Int) := by
  have v1 : wrap64 (z + 1) = z + 1 := (w64 (by omega) (by omega)).trans (by omega)
  have v2 : wrap64 (z + 1 + 1) = z + 2 := (w64 (by omega) (by omega)).trans (by omega)
  have v3 : wrap64 (z + 2 + 1) = z + 3 := (w64 (by omega) (by omega)).trans (by omega)
  have v4 : wrap64 (z + 3 + 1) = z + 4 := (w64 (by omega) (by omega)).trans (by omega)
  have vi : wrap64 ((i : Int) + 1) = ((i + 1 : Nat) : Int) := (w64 (by omega) (by omega)).trans (by omega)
  simp only [laws_markPunctS.l0, Option.bind_some]
  rw [if_pos (by omega), if_pos (by omega)]
  simp only [v1, v2, v3, v4, vi, rd_T58, Int.toNat_natCast, List.set_set, List.getD_eq_getElem?_getD, List.getElem?_set_self hi, Option.getD_some]
theorem markPunctS_eq (l : List S58) (a : Int) (k : Nat) (hk : l.length < k) (h0 : 0 ≤ a) (ha : a ≤ 1000000000) (hb : l.length ≤ 4611686018427) : laws_markPunctS.f k l a = some (a + 4 * l.length, patPunct a l.length) := by
  unfold laws_markPunctS.f
  refine up_loop0 (fun k (s : List S58 × Int) i => laws_markPunctS.l0 k s.1 s.2 (i : Int)) l.length (fun i s => s.1.length = l.length ∧ s.1.take i = ((List.range l.length).take i).map (fun j : Nat => (⟨(a + 4 * (j : Int)), (a + 4 * (j : Int)) + 1, (a + 4 * (j : Int)) + 2, (a + 4 * (j : Int)) + 3⟩ : S58)) ∧ s.2 = a + 4 * (i : Int)) (fun r => r = some (a + 4 * l.length, patPunct a l.length)) ?_ ?_ k (l, a) ?_ hk
  · rintro k ⟨xs, z⟩ i hi ⟨h1, h2, h3⟩
    simp only at h1 h2 h3
    left
    have hi' : i < (List.range l.length).length := by simpa using hi
    obtain ⟨h4, h5⟩ := copied_step (fun j : Nat => (⟨(a + 4 * (j : Int)), (a + 4 * (j : Int)) + 1, (a + 4 * (j : Int)) + 2, (a + 4 * (j : Int)) + 3⟩ : S58)) (List.range l.length) xs i hi' (by simpa using h1) h2
    refine ⟨(_, z + 4), ⟨?_, ?_, ?_⟩, markPunctS_step xs z i k (by omega) (by omega) (by omega) (by omega)⟩
    · simp only [List.length_set]
      exact h1
    · rw [List.getElem_range] at h5
      subst h3
      exact h5
    · simp only [h3]
      omega
  · rintro k ⟨xs, z⟩ ⟨h1, h2, h3⟩
    simp only at h1 h2 h3
    simp only [laws_markPunctS.l0]
    rw [if_neg (by omega)]
    have h4 := copied_end (fun j : Nat => (⟨(a + 4 * (j : Int)), (a + 4 * (j : Int)) + 1, (a + 4 * (j : Int)) + 2, (a + 4 * (j : Int)) + 3⟩ : S58)) (List.range l.length) xs (by simpa using h1) (by simpa using h2)
    rw [h3, h4]
    rfl
  · exact ⟨rfl, by simp, by simp⟩
theorem heldPunctS_step (a : Int) (n i k : Nat) (hi : i < n) (h0 : 0 ≤ a) (ha : a ≤ 1000000000) (hl : n ≤ 4611686018427) :
    laws_heldPunctS.l0 (k + 1) (patPunct a n) (a + 4 * (i : Int)) (i : Int) = laws_heldPunctS.l0 k (patPunct a n) (a + 4 * ((i + 1 : Nat) : Int)) ((i + 1 : Nat) : Int) := by
  have hlen : (patPunct a n).length = n := by simp [patPunct]
  have vi : wrap64 ((i : Int) + 1) = ((i + 1 : Nat) : Int) := (w64 (by omega) (by omega)).trans (by omega)
  have e : rd_T58 (patPunct a n) (i : Int) = (fun j : Nat => (⟨(a + 4 * (j : Int)), (a + 4 * (j : Int)) + 1, (a + 4 * (j : Int)) + 2, (a + 4 * (j : Int)) + 3⟩ : S58)) i := by
    unfold rd_T58
    rw [getD_nat _ _ i (by omega)]
    simp only [patPunct, List.getElem_map, List.getElem_range]
  have hz : ((a + 4 * ((i + 1 : Nat) : Int)) : Int) = a + 4 * (i : Int) + 4 := by omega
  rw [hz]
  generalize hzz : a + 4 * (i : Int) = z at *
  have hz0 : 0 ≤ z := by omega
  have hz1 : z ≤ 1152921504606846976 := by omega
  have v1 : wrap64 (z + 1) = z + 1 := (w64 (by omega) (by omega)).trans (by omega)
  have v2 : wrap64 (z + 1 + 1) = z + 2 := (w64 (by omega) (by omega)).trans (by omega)
  have v3 : wrap64 (z + 2 + 1) = z + 3 := (w64 (by omega) (by omega)).trans (by omega)
  have v4 : wrap64 (z + 3 + 1) = z + 4 := (w64 (by omega) (by omega)).trans (by omega)
  simp only [laws_heldPunctS.l0]
  rw [if_pos (by omega), if_pos (by omega), e]
  simp only [v1, v2, v3, v4, vi, bne_self_eq_false, Bool.false_eq_true, if_true, if_false, hzz]
theorem heldPunctS_eq (a : Int) (n k : Nat) (hk : n < k) (h0 : 0 ≤ a) (ha : a ≤ 1000000000) (hl : n ≤ 4611686018427) : laws_heldPunctS.f k (patPunct a n) a = some (a + 4 * n) := by
  unfold laws_heldPunctS.f
  have hlen : (patPunct a n).length = n := by simp [patPunct]
  refine up_loop0 (fun k (s : Int) i => laws_heldPunctS.l0 k (patPunct a n) s (i : Int)) n (fun i s => s = a + 4 * (i : Int)) (fun r => r = some (a + 4 * n)) ?_ ?_ k a ?_ hk
  · rintro k s i hi rfl
    left
    exact ⟨_, rfl, heldPunctS_step a n i k hi h0 ha hl⟩
  · rintro k s rfl
    simp only [laws_heldPunctS.l0]
    rw [if_neg (by omega)]
  · simp

theorem markLat_eq (N : Int) (l : List Int) (k : Nat) (hk : l.length < k) (hl : l.length ≤ 1048576) : laws_markLat.f k N l 1 = some (1 + 1 * (l.length : Int), patUint64 1 l.length) := by
  unfold laws_markLat.f
  rw [markUint64S_eq l 1 k hk (by omega) (by omega) (by omega)]; rfl
theorem FnExactPolicySet : Say.FnExactPolicySet := by
  intro N l list pa pb pc pd hN hl hb hll hlb _ _ _ _
  refine Evt.ex (r := true) ?_
  by_cases hs : (1048576 : Int) < l.length
  · refine (Evt.const true).congr fun k => ?_
    unfold laws_FnExactPolicySet.f
    rw [szLat_eq N l hl, if_pos hs]
    rfl
  by_cases hq : (1048576 - l.length : Int) < list.length
  · refine (Evt.const true).congr fun k => ?_
    unfold laws_FnExactPolicySet.f
    rw [szLat_eq N l hl, if_neg hs, Option.bind_some]
    rw [if_neg (by omega), szPunct_eq list hll _ (by omega), if_pos hq]
    rfl
  · have hl' : l.length ≤ 1048576 := by omega
    have hq' : list.length ≤ 1048576 := by omega
    obtain ⟨L, hL⟩ : ∃ L, L = list.map (fun x : S56 => (⟨x.f0, x.f1, x.f2, x.f3⟩ : S58)) := ⟨_, rfl⟩
    have hLl : L.length = list.length := by rw [hL, List.length_map]
    obtain ⟨u, f, hu, h1, h2⟩ := set_both N l hb L (by omega) ⟨pa, pb, pc, pd⟩
    obtain ⟨K1, t1⟩ := toLat_ev N l hl'
    obtain ⟨K2, t2⟩ := eqLat_ev N l hl'
    obtain ⟨K3, t3⟩ := h1
    obtain ⟨K4, t4⟩ := h2
    simp only at t1 t2 t3 t4
    have tl : ∀ k, list.length < k → laws_toPunctS.f k list = some L := fun k hk => by rw [toPunctS_eq list k hk hq', hL]
    have tp : laws_toPunct.f pa pb pc pd = some (pa, pb, pc, pd) := rfl
    refine ⟨K1 + K2 + K3 + K4 + l.length + list.length + u.length + 10, fun k hk => ?_⟩
    obtain ⟨j, rfl⟩ : ∃ j, k = j + 3 := ⟨k - 3, by omega⟩
    have e1 : ¬ (1 + 1 * (l.length : Int) + 4 * (L.length : Int) < 0) := by omega
    have e2 : ¬ (1 + 4 * (u.length : Int) < 0) := by omega
    have q2 : laws_FnExactPolicySet.j2 (j + 1) (patPunct 1 u.length) (1 + 4 * (u.length : Int)) false = some true := by
      rw [laws_FnExactPolicySet.j2, if_neg (by decide), heldPunctS_eq 1 u.length j (by omega) (by omega) (by omega) (by omega), Option.bind_some, if_neg e2, if_pos rfl]
    have q1 : laws_FnExactPolicySet.j1 (j + 2) list u f u false N l pa pb pc pd = some true := by
      rw [laws_FnExactPolicySet.j1, if_neg (by decide), markPunctS_eq u 1 (j + 1) (by omega) (by omega) (by omega) (by omega), Option.bind_some]
      dsimp only
      rw [heldPunctS_eq 1 u.length (j + 1) (by omega) (by omega) (by omega) (by omega), Option.bind_some, if_neg e2, if_pos rfl, t1 (j + 1) (by omega), Option.bind_some, tl (j + 1) (by omega), Option.bind_some, tp, Option.bind_some]
      dsimp only
      rw [t4 (j + 1) (by omega), Option.bind_some]
      dsimp only
      rw [eqPunctS_refl u (j + 1) (by omega) (by omega), Option.bind_some, if_pos rfl, bne_self_eq_false]
      exact q2
    have q0 : laws_FnExactPolicySet.j0 (j + 3) list u f L u f false N l pa pb pc pd N l = some true := by
      rw [laws_FnExactPolicySet.j0, if_neg (by decide), t1 (j + 2) (by omega), Option.bind_some]
      dsimp only
      rw [t2 (j + 2) (by omega), Option.bind_some, if_pos rfl, tl (j + 2) (by omega), Option.bind_some, eqPunctS_refl L (j + 2) (by omega) (by omega), Option.bind_some, if_pos rfl, markLat_eq N l (j + 2) (by omega) hl', Option.bind_some]
      dsimp only
      rw [markPunctS_eq L (1 + 1 * (l.length : Int)) (j + 2) (by omega) (by omega) (by omega) (by omega), Option.bind_some]
      dsimp only
      rw [if_neg e1, eqPunctS_refl u (j + 2) (by omega) (by omega), Option.bind_some, if_pos rfl, bne_self_eq_false]
      exact q1
    show laws_FnExactPolicySet.f (j + 3) N l list pa pb pc pd = some true
    unfold laws_FnExactPolicySet.f
    rw [szLat_eq N l hl, if_neg hs, Option.bind_some, if_neg (by omega), szPunct_eq list hll _ (by omega), if_neg hq, Option.bind_some, if_neg (by omega), t1 (j + 3) (by omega), Option.bind_some, tl (j + 3) (by omega), Option.bind_some, tp, Option.bind_some]
    dsimp only
    rw [t3 (j + 3) (by omega), Option.bind_some, Option.bind_some, Option.bind_some, Option.bind_some]
    dsimp only
    rw [t4 (j + 3) (by omega), Option.bind_some]
    dsimp only
    rw [eqPunctS_refl u (j + 3) (by omega) (by omega), Option.bind_some, if_pos rfl, bne_self_eq_false]
    exact q0

end Go.Proofs.Ytdpoliolinghfaa.Pure
