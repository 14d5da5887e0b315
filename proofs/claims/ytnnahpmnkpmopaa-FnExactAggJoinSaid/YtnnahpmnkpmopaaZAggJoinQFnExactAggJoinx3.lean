/- Proved: calls of the program come to the answers of the plain Lean functions that stand beside them. Each contract names its conditions. (Written by a program of this session, over the printer of the kit.) -/
import Derived.Test.YtnnahpmnkpmopaaZAggJoinQFnExactAggJoinx0
namespace Go.Proofs.Ytnnahpmnkpmopaa.QFnExactAggJoin
open Go.RowKit Go.Proofs.YtnnahpmnkpmopaaW.PrintWords Go.Proofs.YtnnahpmnkpmopaaW.PrintLast Go.Proofs.YtnnahpmnkpmopaaW.PrintMore
attribute [local go_sem] max2_int min2_int max_two min_two max_three min_three max_four min_four   -- for this text's walks alone
set_option linter.unusedVariables false
set_option linter.unusedSimpArgs false

/-! ### spec_TopOf: function 19 -/
mutual
def spec_TopOf.l0 : Nat → List Int → List Int → Option (List Int)
 | 0, _, _ => none
 | k + 1, x5, x6 => if (x6.length : Int) < 4 then (spec_TopOf.j1 k x5 x6 (decide ((x5.length : Int) > 0))) else (spec_TopOf.j1 k x5 x6 false)
def spec_TopOf.j1 : Nat → List Int → List Int → Bool → Option (List Int)
 | 0, _, _, _ => none
 | k + 1, x5, x6, x22 => if x22 = true then (spec_TopOf.l1 k x5 x6 0 0) else (some x6)
def spec_TopOf.l1 : Nat → List Int → List Int → Int → Int → Option (List Int)
 | 0, _, _, _, _ => none
 | k + 1, x5, x6, x7, x8 => if x8 < (x5.length : Int) then (if 0 ≤ x8 then (if 0 ≤ x7 then (if x7 < (x5.length : Int) then (if (rd x5 x8) > (rd x5 x7) then (spec_TopOf.l1 k x5 x6 x8 (wrap64 (x8 + 1))) else (spec_TopOf.l1 k x5 x6 x7 (wrap64 (x8 + 1)))) else (none)) else (none)) else (none)) else (if 0 ≤ x7 then (if x7 < (x5.length : Int) then (if x6.length < 17592186044416 then ((some (([] : List Int) : List Int)).bind fun x => (if x7 ≤ (x5.length : Int) then ((some (x5.take (x7 : Int).toNat : List Int)).bind fun W => (if x.length + W.length < 17592186044416 then ((some (x ++ W : List Int)).bind fun O => (if 0 ≤ (wrap64 (x7 + 1)) then (if (wrap64 (x7 + 1)) ≤ (x5.length : Int) then ((some (x5.drop ((wrap64 (x7 + 1)) : Int).toNat : List Int)).bind fun G => (if O.length + G.length < 17592186044416 then (spec_TopOf.l0 k (O ++ G) (x6 ++ [rd x5 x7])) else (none))) else (none)) else (none))) else (none))) else (none))) else (none)) else (none)) else (none))
end
def spec_TopOf.f (k : Nat) (l0 : List Int) (l1 : List Int) : Option (List Int) := (some (([] : List Int) : List Int)).bind fun z => (if z.length + l0.length < 17592186044416 then ((some (z ++ l0 : List Int)).bind fun q => (if q.length + l1.length < 17592186044416 then (spec_TopOf.l0 k (q ++ l1) (([] : List Int))) else (none))) else (none))
def spec_TopOf.T8 : Bool × List (List Nat × List Nat) := (true, [([], []), ([], []), ([0, 1], [0, 1]), ([2], [2]), ([], []), ([], []), ([4, 5], [4, 5]), ([6], [6]), ([3, 7], [3, 7])])
def spec_TopOf.B8 : List Nat := [0, 0, 3, 7, 0, 0, 48, 112, 255]
theorem spec_TopOf.tab8 : rtab .any (opsOf Try.f19 8) = spec_TopOf.T8 := by kernel_rfl
theorem spec_TopOf.bits8 : waitsOk spec_TopOf.T8.2 spec_TopOf.B8 = true := by kernel_rfl
def spec_TopOf.T11 : Bool × List (List Nat × List Nat) := (true, [([], []), ([], []), ([], []), ([1, 2], [1, 2]), ([0, 3], [0, 3]), ([], []), ([], []), ([6], [6]), ([5, 7], [5, 7]), ([4, 8, 4], [4, 8]), ([9, 9, 0, 1, 2, 3, 4, 5, 6, 7, 8, 9], [1, 5, 9])])
def spec_TopOf.B11 : List Nat := [0, 0, 0, 6, 15, 0, 0, 64, 224, 511, 1023]
theorem spec_TopOf.tab11 : rtab .any (opsOf Try.f19 11) = spec_TopOf.T11 := by kernel_rfl
theorem spec_TopOf.bits11 : waitsOk spec_TopOf.T11.2 spec_TopOf.B11 = true := by kernel_rfl
set_option maxHeartbeats 8000000 in
set_option maxRecDepth 100000 in
theorem spec_TopOf.calls (k : Nat) (A0 : Option Addr) (c0 : Nat) (l0 : List Int) (A1 : Option Addr) (c1 : Nat) (l1 : List Int) (r : List Int) (w : World) (b6 : Kd.C (Kd.int .i64) w A0 l0.length l0) (ch : l0.length ≤ c0) (cg : Kd.C (Kd.int .i64) w A1 l1.length l1) (ck : l1.length ≤ c1) (h : spec_TopOf.f k l0 l1 = some r) :
  Calls Try.prog 19 #[.slice A0 l0.length c0, .slice A1 l1.length c1] w fun e w' => ∃ b9 : Value, e = .returned (b9) ∧ Kd.R (Kd.int .i64) 3 w' w.heap.size (fun _ => True) b9 r ∧ Below w.heap.size w w' := by
 have cr := zp.mk b6
 have dg := zp.mk ch
 clear b6 ch
 have cq := zp.mk cg
 have dd := zp.mk ck
 clear cg ck
 have HB := zp.mk (Below.refl w.heap.size w)
 have H : ((some (([] : List Int) : List Int)).bind fun z => (if z.length + l0.length < 17592186044416 then ((some (z ++ l0 : List Int)).bind fun q => (if q.length + l1.length < 17592186044416 then (spec_TopOf.l0 k (q ++ l1) (([] : List Int))) else (none))) else (none))) = some r := h
 clear h
 obtain ⟨z, an⟩ : ∃ y_ : List Int, y_ = (([] : List Int)) := ⟨_, rfl⟩
 replace H : (if z.length + l0.length < 17592186044416 then ((some (z ++ l0 : List Int)).bind fun q => (if q.length + l1.length < 17592186044416 then (spec_TopOf.l0 k (q ++ l1) (([] : List Int))) else (none))) else (none)) = some r := by first | (rw [an]; with_reducible exact H) | (have I := (Option.bind_some _ _).symm.trans H; rw [an]; with_reducible exact I) | (have I := (Option.bind_some _ _).symm.trans H; with_reducible exact I) | with_reducible exact H | (rw [an]; exact H) | exact H
 have be := zp.mk an
 clear an
 by_cases c3 : z.length + l0.length < 17592186044416
 ·rw [if_pos c3] at H
  have ci := zp.mk c3
  clear c3
  obtain ⟨q, ak⟩ : ∃ y_ : List Int, y_ = (z ++ l0) := ⟨_, rfl⟩
  replace H : (if q.length + l1.length < 17592186044416 then (spec_TopOf.l0 k (q ++ l1) (([] : List Int))) else (none)) = some r := by first | (rw [ak]; with_reducible exact H) | (have I := (Option.bind_some _ _).symm.trans H; rw [ak]; with_reducible exact I) | (have I := (Option.bind_some _ _).symm.trans H; with_reducible exact I) | with_reducible exact H | (rw [ak]; exact H) | exact H
  have b0 := zp.mk ak
  clear ak
  by_cases c4 : q.length + l1.length < 17592186044416
  ·rw [if_pos c4] at H
   have cb := zp.mk c4
   clear c4
   obtain ⟨a1, aq⟩ : ∃ y_ : List Int, y_ = (q ++ l1) := ⟨_, rfl⟩
   replace H : (spec_TopOf.l0 k a1 (([] : List Int))) = some r := by first | (rw [aq]; with_reducible exact H) | (have I := (Option.bind_some _ _).symm.trans H; rw [aq]; with_reducible exact I) | (have I := (Option.bind_some _ _).symm.trans H; with_reducible exact I) | with_reducible exact H | (rw [aq]; exact H) | exact H
   have bV := zp.mk aq
   clear aq
   obtain ⟨bI, aA⟩ : ∃ y_ : List Int, y_ = (([] : List Int)) := ⟨_, rfl⟩
   replace H : (spec_TopOf.l0 k a1 bI) = some r := by first | (rw [aA]; with_reducible exact H) | (have I := (Option.bind_some _ _).symm.trans H; rw [aA]; with_reducible exact I) | (have I := (Option.bind_some _ _).symm.trans H; with_reducible exact I) | with_reducible exact H | (rw [aA]; exact H) | exact H
   have bd := zp.mk aA
   clear aA
   have H' := zp.mk H
   clear H
   go_enter Try.func19, Try.ntmps19
   go_wp2_with (first | ((with_reducible refine zo (N := 9) rfl ?_); (try (refine gate_guard (by rfl) ?_; dsimp only)); refine Kd.R_lit (Kd.int .i64) _ 3 ?hg (N := 9) ?hd (xs := ([] : List Int)) (inner := []) (ok := fun _ => True) (okp := fun _ => True) ?hr ?hp (fun _ hk => hk) trivial (Below.refl _ _) (Nat.le_refl _) (by simp) ?_; (case hd => rfl); (case hg => rfl); (case hr => first | (go_simp; done) | (go_simp; rfl)); (case hp => exact (Reps.none _ _)); intro cm w5 bf hb hg_ hnew_; clear hg_ hnew_; (first | rw [← be.out] at bf | (simp only [Int.reduceToNat] at bf; rw [← be.out] at bf)); have a9 := zp.mk (Kd.R_lower bf (zk (zv6 HB.out))); replace HB := zp.mk (zj (zv6 HB.out) hb); clear hb bf) | ((with_reducible refine gate_builtin (b := .append) (xs := #[.tmp 9, .tmp 10]) rfl ?_); (try (refine gate_guard (by rfl) ?_; dsimp only)); at_builtin; refine Kd.R_append_rows (Kd.int .i64) (w0 := w) w.heap.size rfl (.tmp 9) (.tmp 10) 25 3 (.int .i64 0) 8 rfl Try.underlying25 info3 rfl (by decide) (by omega) cm z l0 _ _ _ (fun _ => True) (fun _ => False) rfl rfl ?aO ?aR (fun _ _ h => h) (fun _ h => h.elim) ?aF ?aB ?aS ?aL ?_; (case aR => repeat (first | exact (Kd.zt cr.out HB.out) | (with_reducible refine Kd.zr ?_ _) | (with_reducible refine Kd.zq ?_ _) | (with_reducible refine Kd.C_drew ?_))); (case aB => exact (zv6 HB.out)); (case aF => exact (fun _ _ => trivial)); (case aO => exact (by (with_reducible repeat (first | apply Kd.R_alloc | apply Kd.R_drewN | apply Kd.R_drew)); exact a9.out)); (case aS => exact (zk (zv6 HB.out))); (case aL => have := ci.out; omega); intro b5 w7 ho hb hg hat; rw [← b0.out] at ho; have ag := zp.mk (hb); have af := zp.mk (ho); clear HB; clear a9; have HB := ag; have ba := af; clear ag af; clear ho hb hg hat) | ((with_reducible refine gate_builtin (b := .append) (xs := #[.tmp 11, .tmp 12]) rfl ?_); (try (refine gate_guard (by rfl) ?_; dsimp only)); at_builtin; refine Kd.R_append_rows (Kd.int .i64) (w0 := w) w.heap.size rfl (.tmp 11) (.tmp 12) 25 3 (.int .i64 0) 8 rfl Try.underlying25 info3 rfl (by decide) (by omega) b5 q l1 _ _ _ (fun _ => True) (fun _ => False) rfl rfl ?aO ?aR (fun _ _ h => h) (fun _ h => h.elim) ?aF ?aB ?aS ?aL ?_; (case aR => repeat (first | exact (Kd.zt cq.out HB.out) | (with_reducible refine Kd.zr ?_ _) | (with_reducible refine Kd.zq ?_ _) | (with_reducible refine Kd.C_drew ?_))); (case aB => exact (zv6 HB.out)); (case aF => exact (fun _ _ => trivial)); (case aO => exact (by (with_reducible repeat (first | apply Kd.R_alloc | apply Kd.R_drewN | apply Kd.R_drew)); exact ba.out)); (case aS => exact (zk (zv6 HB.out))); (case aL => have := cb.out; omega); intro cR w8 ho hb hg hat; rw [← bV.out] at ho; have ag := zp.mk (hb); have af := zp.mk (ho); clear HB; clear ba; have HB := ag; have aG := af; clear ag af; clear ho hb hg hat) | ((with_reducible refine zo (N := 14) rfl ?_); (try (refine gate_guard (by rfl) ?_; dsimp only)); refine Kd.R_lit (Kd.int .i64) _ 3 ?hg (N := 14) ?hd (xs := ([] : List Int)) (inner := []) (ok := fun _ => True) (okp := fun _ => True) ?hr ?hp (fun _ hk => hk) trivial (Below.refl _ _) (Nat.le_refl _) (by simp) ?_; (case hd => rfl); (case hg => rfl); (case hr => first | (go_simp; done) | (go_simp; rfl)); (case hp => exact (Reps.none _ _)); intro cW w9 aD hb hg_ hnew_; clear hg_ hnew_; (first | rw [← bd.out] at aD | (simp only [Int.reduceToNat] at aD; rw [← bd.out] at aD)); have bL := zp.mk (Kd.R_lower (Kd.R_new' aD (Kd.R_lt (by (with_reducible repeat (first | apply Kd.R_alloc | apply Kd.R_drewN | apply Kd.R_drew)); exact aG.out))) (zk (zv6 HB.out))); replace aG := zp.mk (Kd.R_elder' (by (with_reducible repeat (first | apply Kd.R_alloc | apply Kd.R_drewN | apply Kd.R_drew)); exact aG.out) (Kd.R_base aD) hb); replace HB := zp.mk (zj (zv6 HB.out) hb); clear hb aD))
   go_loopg [5, 6] k (fun kq v5 v6 w' => ∃ (A : List Int) (Z : List Int), zp (spec_TopOf.l0 kq A Z = some r) ∧ zp (kq ≤ k) ∧ zp (Kd.R (Kd.int .i64) 3 w' w.heap.size (fun k_ => some k_ ≠ (v6 : Value).ownBlock) v5 A) ∧ zp (Kd.R (Kd.int .i64) 3 w' w.heap.size (fun k_ => some k_ ≠ (v5 : Value).ownBlock) v6 Z) ∧ zp (Below w.heap.size w w'))
   case atStart => exact ⟨(a1), (bI), H', ⟨Nat.le_refl _⟩, ⟨by (with_reducible repeat (first | apply Kd.R_alloc | apply Kd.R_drewN | apply Kd.R_drew)); exact Kd.R_mono aG.out (fun _ hk => hk.2)⟩, ⟨by (with_reducible repeat (first | apply Kd.R_alloc | apply Kd.R_drewN | apply Kd.R_drew)); exact Kd.R_mono bL.out (fun _ hk => hk.2)⟩, ⟨zv6 HB.out⟩⟩
   case round =>
    clear H'
    try clear c1
    try clear p2
    try clear c3
    try clear c4
    obtain ⟨A, Z, HA, aM, D, X, HB⟩ := hrel
    cases gk with
    | zero => exact absurd HA.out (by simp [spec_TopOf.l0])
    | succ k1 =>
     have H := HA.out
     clear HA
     simp only [spec_TopOf.l0] at H
     have a2 := zp.mk H
     clear H
     go_upto_region 3 with (fail)
     go_cut [22] (fun cF wc => ∃ (kq : Nat) (ai : Bool), cF = .bool ai ∧ zp (spec_TopOf.j1 kq A Z ai = some r) ∧ zp (kq ≤ k1) ∧ zp (Kd.R (Kd.int .i64) 3 wc w.heap.size (fun k_ => some k_ ≠ (u6 : Value).ownBlock) u5 A) ∧ zp (Kd.R (Kd.int .i64) 3 wc w.heap.size (fun k_ => some k_ ≠ (u5 : Value).ownBlock) u6 Z) ∧ zp (Below w.heap.size w wc))
     case first =>
      have H := a2.out
      clear a2
      by_cases aI : (Z.length : Int) < 4
      ·rw [if_pos aI] at H
       have ae : decide ((Z.length : Int) < 4) = true := decide_eq_true aI
       have aT : decide (Z.length < 4) = true := decide_eq_true (by omega)
       clear aI
       (first | rw [ae] | (simp only [i64_w, i32_w]; rw [ae]) | skip)
       have H' := zp.mk H
       clear H
       obtain ⟨cX, cV, cc⟩ := Kd.R_slice X.out
       subst cc
       obtain ⟨cS, cJ, b1⟩ := Kd.R_slice D.out
       subst b1
       go_wp2
       go_meet
       case rel => exact ⟨_, (decide ((A.length : Int) > 0)), (by first | rfl | (simp; done) | (simp [*]; done)), H', ⟨by have := aM.out; first | omega | exact Nat.le_refl _⟩, ⟨by (with_reducible repeat (first | apply Kd.R_alloc | apply Kd.R_drewN | apply Kd.R_drew)); exact D.out⟩, ⟨by (with_reducible repeat (first | apply Kd.R_alloc | apply Kd.R_drewN | apply Kd.R_drew)); exact X.out⟩, ⟨zv6 HB.out⟩⟩
      ·rw [if_neg aI] at H
       have ae : decide ((Z.length : Int) < 4) = false := decide_eq_false aI
       have aT : decide (Z.length < 4) = false := decide_eq_false (by omega)
       clear aI
       (first | rw [ae] | (simp only [i64_w, i32_w]; rw [ae]) | skip)
       have H' := zp.mk H
       clear H
       obtain ⟨cM, cY, ca⟩ := Kd.R_slice X.out
       subst ca
       go_wp2
       go_meet
       case rel => exact ⟨_, (false), (by first | rfl | (simp; done) | (simp [*]; done)), H', ⟨by have := aM.out; first | omega | exact Nat.le_refl _⟩, ⟨by (with_reducible repeat (first | apply Kd.R_alloc | apply Kd.R_drewN | apply Kd.R_drew)); exact D.out⟩, ⟨by (with_reducible repeat (first | apply Kd.R_alloc | apply Kd.R_drewN | apply Kd.R_drew)); exact X.out⟩, ⟨zv6 HB.out⟩⟩
     case rest =>
      clear a2
      try clear c1
      try clear p2
      try clear c3
      try clear c4
      try clear aI
      try clear ae
      try clear aT
      try clear p2
      obtain ⟨kq, ai, rfl, HA, aC, D, X, HB⟩ := hcut
      cases kq with
      | zero => exact absurd HA.out (by simp [spec_TopOf.j1])
      | succ kj10 =>
       have H := HA.out
       clear HA
       simp only [spec_TopOf.j1] at H
       by_cases a3 : ai = true
       ·subst a3
        have H1 : (spec_TopOf.l1 kj10 A Z 0 0) = some r := by rw [if_pos rfl] at H; exact H
        clear H
        have H := H1
        clear H1
        have H' := zp.mk H
        clear H
        go_wp2
        go_loopg [7, 8] kj10 (fun kq v7 v8 w' => ∃ (B : Int) (J : Int), v7 = .int .i64 B ∧ v8 = .int .i64 J ∧ zp (spec_TopOf.l1 kq A Z B J = some r) ∧ zp (kq ≤ kj10) ∧ zp (Kd.R (Kd.int .i64) 3 w' w.heap.size (fun k_ => some k_ ≠ (u6 : Value).ownBlock) u5 A) ∧ zp (Kd.R (Kd.int .i64) 3 w' w.heap.size (fun k_ => some k_ ≠ (u5 : Value).ownBlock) u6 Z) ∧ zp (Below w.heap.size w w'))
        case atStart => exact ⟨(0), (0), (by first | rfl | (simp; done) | (simp [*]; done)), (by first | rfl | (simp; done) | (simp [*]; done)), H', ⟨Nat.le_refl _⟩, ⟨by (with_reducible repeat (first | apply Kd.R_alloc | apply Kd.R_drewN | apply Kd.R_drew)); exact D.out⟩, ⟨by (with_reducible repeat (first | apply Kd.R_alloc | apply Kd.R_drewN | apply Kd.R_drew)); exact X.out⟩, ⟨zv6 HB.out⟩⟩
        case round =>
         clear H'
         try clear c1
         try clear p2
         try clear c3
         try clear c4
         try clear aI
         try clear ae
         try clear aT
         try clear a3
         try clear p2
         obtain ⟨B, J, rfl, rfl, HA, aZ, D, X, HB⟩ := hrel
         cases gk with
         | zero => exact absurd HA.out (by simp [spec_TopOf.l1])
         | succ k3 =>
          have H := HA.out
          clear HA
          simp only [spec_TopOf.l1] at H
          by_cases aX : J < (A.length : Int)
          ·rw [if_pos aX] at H
           have bS : decide (J < (A.length : Int)) = true := decide_eq_true aX
           clear aX
           by_cases bu : 0 ≤ J
           ·rw [if_pos bu] at H
            have cG : decide (0 ≤ J) = true := decide_eq_true bu
            clear bu
            by_cases bB : 0 ≤ B
            ·rw [if_pos bB] at H
             have cH : decide (0 ≤ B) = true := decide_eq_true bB
             clear bB
             by_cases bv : B < (A.length : Int)
             ·rw [if_pos bv] at H
              have cD : decide (B < (A.length : Int)) = true := decide_eq_true bv
              clear bv
              by_cases aY : (rd A J) > (rd A B)
              ·rw [if_pos aY] at H
               have bX : decide ((rd A B) < (rd A J)) = true := decide_eq_true aY
               clear aY
               have H' := zp.mk H
               clear H
               obtain ⟨cT, cQ, b3⟩ := Kd.R_slice D.out
               subst b3
               try go_wp2
               replace D := zp.mk (Kd.R_drew D.out)
               replace X := zp.mk (Kd.R_drew X.out)
               replace HB := zp.mk (zb HB.out)
               have ar : 0 ≤ (J : Int) := of_decide_eq_true (by first | (with_reducible assumption) | assumption)
               have az : J < (A.length : Int) := of_decide_eq_true (by first | (with_reducible assumption) | assumption)
               obtain ⟨ad, a4, ab⟩ := Kd.at_int (Kd.R_reads' D.out).2.2 J ar az
               cases a4
               replace ar := eq_true ar
               replace az := eq_true az
               have ap : 0 ≤ (B : Int) := of_decide_eq_true (by first | (with_reducible assumption) | assumption)
               have al : B < (A.length : Int) := of_decide_eq_true (by first | (with_reducible assumption) | assumption)
               obtain ⟨aQ, bl, aa⟩ := Kd.at_int (Kd.R_reads' D.out).2.2 B ap al
               obtain rfl : ad = aQ := (by injection bl)
               replace ap := eq_true ap
               replace al := eq_true al
               refine start_ (n := 9) (S := fun w' => w'.cell? (ad.add (J).toNat) = some (.int .i64 (rd A J)) ∧ w'.cell? (ad.add (B).toNat) = some (.int .i64 (rd A B))) (ds := []) (zB 9 0) (by kernel_rfl) rfl rfl ⟨ab, aa⟩ (fun hHeld => ?_); refine with_tabW spec_TopOf.tab8 spec_TopOf.bits8 (fun HT_ HW_ => ?_)
               generalize wr.drew = dc at D X HB ab aa hHeld ⊢
               refine zP 0 29 (zB 9 1) HT_ ?_
               refine zP 1 30 (zB 9 3) HT_ ?_
               refine zP 2 31 (zB 9 7) HT_ ?_
               refine zP 4 33 (zB 9 23) HT_ ?_
               refine zP 5 34 (zB 9 55) HT_ ?_
               refine zP 6 35 (zB 9 119) HT_ ?_
               refine zT 3 32 (zB 9 127) HT_ HW_ hHeld ?_
               refine zT 7 36 (zB 9 255) HT_ HW_ hHeld ?_
               refine zP 8 37 (zB 9 511) HT_ ?_
               refine done_ (done_of HT_.out (by kernel_rfl)) ?_
               try go_wp2
               go_roundg k3
               case measure => have := aM.out; have := aC.out; have := aZ.out; omega
               case rel => exact ⟨(J), (wrap64 (J + 1)), (by first | rfl | (simp; done) | (simp [*]; done)), (by first | rfl | (simp; done) | (simp [*]; done)), H', ⟨by have := aM.out; have := aC.out; have := aZ.out; omega⟩, ⟨by (with_reducible repeat (first | apply Kd.R_alloc | apply Kd.R_drewN | apply Kd.R_drew)); exact D.out⟩, ⟨by (with_reducible repeat (first | apply Kd.R_alloc | apply Kd.R_drewN | apply Kd.R_drew)); exact X.out⟩, ⟨zv6 HB.out⟩⟩
              ·rw [if_neg aY] at H
               have bX : decide ((rd A B) < (rd A J)) = false := decide_eq_false aY
               clear aY
               have H' := zp.mk H
               clear H
               obtain ⟨cL, cN, cj⟩ := Kd.R_slice D.out
               subst cj
               try go_wp2
               replace D := zp.mk (Kd.R_drew D.out)
               replace X := zp.mk (Kd.R_drew X.out)
               replace HB := zp.mk (zb HB.out)
               have ar : 0 ≤ (J : Int) := of_decide_eq_true (by first | (with_reducible assumption) | assumption)
               have az : J < (A.length : Int) := of_decide_eq_true (by first | (with_reducible assumption) | assumption)
               obtain ⟨ad, a4, ab⟩ := Kd.at_int (Kd.R_reads' D.out).2.2 J ar az
               cases a4
               replace ar := eq_true ar
               replace az := eq_true az
               have ap : 0 ≤ (B : Int) := of_decide_eq_true (by first | (with_reducible assumption) | assumption)
               have al : B < (A.length : Int) := of_decide_eq_true (by first | (with_reducible assumption) | assumption)
               obtain ⟨aQ, bl, aa⟩ := Kd.at_int (Kd.R_reads' D.out).2.2 B ap al
               obtain rfl : ad = aQ := (by injection bl)
               replace ap := eq_true ap
               replace al := eq_true al
               refine start_ (n := 9) (S := fun w' => w'.cell? (ad.add (J).toNat) = some (.int .i64 (rd A J)) ∧ w'.cell? (ad.add (B).toNat) = some (.int .i64 (rd A B))) (ds := []) (zB 9 0) (by kernel_rfl) rfl rfl ⟨ab, aa⟩ (fun hHeld => ?_); refine with_tabW spec_TopOf.tab8 spec_TopOf.bits8 (fun HT_ HW_ => ?_)
               generalize wr.drew = df at D X HB ab aa hHeld ⊢
               refine zP 0 29 (zB 9 1) HT_ ?_
               refine zP 1 30 (zB 9 3) HT_ ?_
               refine zP 2 31 (zB 9 7) HT_ ?_
               refine zP 4 33 (zB 9 23) HT_ ?_
               refine zP 5 34 (zB 9 55) HT_ ?_
               refine zP 6 35 (zB 9 119) HT_ ?_
               refine zT 3 32 (zB 9 127) HT_ HW_ hHeld ?_
               refine zT 7 36 (zB 9 255) HT_ HW_ hHeld ?_
               refine zP 8 37 (zB 9 511) HT_ ?_
               refine done_ (done_of HT_.out (by kernel_rfl)) ?_
               try go_wp2
               go_roundg k3
               case measure => have := aM.out; have := aC.out; have := aZ.out; omega
               case rel => exact ⟨(B), (wrap64 (J + 1)), (by first | rfl | (simp; done) | (simp [*]; done)), (by first | rfl | (simp; done) | (simp [*]; done)), H', ⟨by have := aM.out; have := aC.out; have := aZ.out; omega⟩, ⟨by (with_reducible repeat (first | apply Kd.R_alloc | apply Kd.R_drewN | apply Kd.R_drew)); exact D.out⟩, ⟨by (with_reducible repeat (first | apply Kd.R_alloc | apply Kd.R_drewN | apply Kd.R_drew)); exact X.out⟩, ⟨zv6 HB.out⟩⟩
             ·rw [if_neg bv] at H
              exact absurd H (by simp)
            ·rw [if_neg bB] at H
             exact absurd H (by simp)
           ·rw [if_neg bu] at H
            exact absurd H (by simp)
          ·rw [if_neg aX] at H
           have bS : decide (J < (A.length : Int)) = false := decide_eq_false aX
           clear aX
           by_cases bC : 0 ≤ B
           ·rw [if_pos bC] at H
            have cA : decide (0 ≤ B) = true := decide_eq_true bC
            clear bC
            by_cases bA : B < (A.length : Int)
            ·rw [if_pos bA] at H
             have cC : decide (B < (A.length : Int)) = true := decide_eq_true bA
             clear bA
             by_cases bD : Z.length < 17592186044416
             ·rw [if_pos bD] at H
              have bN := zp.mk bD
              clear bD
              obtain ⟨ah, aw⟩ : ∃ y_ : List Int, y_ = (Z ++ [rd A B]) := ⟨_, rfl⟩
              replace H : ((some (([] : List Int) : List Int)).bind fun x => (if B ≤ (A.length : Int) then ((some (A.take (B : Int).toNat : List Int)).bind fun W => (if x.length + W.length < 17592186044416 then ((some (x ++ W : List Int)).bind fun O => (if 0 ≤ (wrap64 (B + 1)) then (if (wrap64 (B + 1)) ≤ (A.length : Int) then ((some (A.drop ((wrap64 (B + 1)) : Int).toNat : List Int)).bind fun G => (if O.length + G.length < 17592186044416 then (spec_TopOf.l0 k3 (O ++ G) ah) else (none))) else (none)) else (none))) else (none))) else (none))) = some r := by first | (rw [aw]; with_reducible exact H) | (have I := (Option.bind_some _ _).symm.trans H; rw [aw]; with_reducible exact I) | (have I := (Option.bind_some _ _).symm.trans H; with_reducible exact I) | with_reducible exact H | (rw [aw]; exact H) | exact H
              have bW := zp.mk aw
              clear aw
              obtain ⟨x, ay⟩ : ∃ y_ : List Int, y_ = (([] : List Int)) := ⟨_, rfl⟩
              replace H : (if B ≤ (A.length : Int) then ((some (A.take (B : Int).toNat : List Int)).bind fun W => (if x.length + W.length < 17592186044416 then ((some (x ++ W : List Int)).bind fun O => (if 0 ≤ (wrap64 (B + 1)) then (if (wrap64 (B + 1)) ≤ (A.length : Int) then ((some (A.drop ((wrap64 (B + 1)) : Int).toNat : List Int)).bind fun G => (if O.length + G.length < 17592186044416 then (spec_TopOf.l0 k3 (O ++ G) ah) else (none))) else (none)) else (none))) else (none))) else (none)) = some r := by first | (rw [ay]; with_reducible exact H) | (have I := (Option.bind_some _ _).symm.trans H; rw [ay]; with_reducible exact I) | (have I := (Option.bind_some _ _).symm.trans H; with_reducible exact I) | with_reducible exact H | (rw [ay]; exact H) | exact H
              have bj := zp.mk ay
              clear ay
              have cB := eq_true (of_decide_eq_true (by first | (with_reducible assumption) | assumption) : 0 ≤ B)
              by_cases bb : B ≤ (A.length : Int)
              ·rw [if_pos bb] at H
               have cI := eq_true bb
               have cy : decide (B ≤ (A.length : Int)) = true := decide_eq_true bb
               clear bb
               obtain ⟨W, au⟩ : ∃ y_ : List Int, y_ = (A.take (B : Int).toNat) := ⟨_, rfl⟩
               replace H : (if x.length + W.length < 17592186044416 then ((some (x ++ W : List Int)).bind fun O => (if 0 ≤ (wrap64 (B + 1)) then (if (wrap64 (B + 1)) ≤ (A.length : Int) then ((some (A.drop ((wrap64 (B + 1)) : Int).toNat : List Int)).bind fun G => (if O.length + G.length < 17592186044416 then (spec_TopOf.l0 k3 (O ++ G) ah) else (none))) else (none)) else (none))) else (none)) = some r := by first | (rw [au]; with_reducible exact H) | (have I := (Option.bind_some _ _).symm.trans H; rw [au]; with_reducible exact I) | (have I := (Option.bind_some _ _).symm.trans H; with_reducible exact I) | with_reducible exact H | (rw [au]; exact H) | exact H
               have aE := zp.mk au
               clear au
               by_cases bx : x.length + W.length < 17592186044416
               ·rw [if_pos bx] at H
                have bM := zp.mk bx
                clear bx
                obtain ⟨O, ao⟩ : ∃ y_ : List Int, y_ = (x ++ W) := ⟨_, rfl⟩
                replace H : (if 0 ≤ (wrap64 (B + 1)) then (if (wrap64 (B + 1)) ≤ (A.length : Int) then ((some (A.drop ((wrap64 (B + 1)) : Int).toNat : List Int)).bind fun G => (if O.length + G.length < 17592186044416 then (spec_TopOf.l0 k3 (O ++ G) ah) else (none))) else (none)) else (none)) = some r := by first | (rw [ao]; with_reducible exact H) | (have I := (Option.bind_some _ _).symm.trans H; rw [ao]; with_reducible exact I) | (have I := (Option.bind_some _ _).symm.trans H; with_reducible exact I) | with_reducible exact H | (rw [ao]; exact H) | exact H
                have bP := zp.mk ao
                clear ao
                obtain ⟨T, aU⟩ : ∃ j_ : Int, (wrap64 (B + 1)) = j_ := ⟨_, rfl⟩
                replace H : (if 0 ≤ (T) then (if (T) ≤ (A.length : Int) then ((some (A.drop ((T) : Int).toNat : List Int)).bind fun G => (if O.length + G.length < 17592186044416 then (spec_TopOf.l0 k3 (O ++ G) ah) else (none))) else (none)) else (none)) = some r := by first | (rw [aU] at H; exact H) | (simp only [aU] at H ⊢; exact H)
                have cn : (IntKind.i64.wrap (B + 1)) = T := (i64_w _).trans aU
                by_cases bm : 0 ≤ (T)
                ·rw [if_pos bm] at H
                 have cu := eq_true bm
                 have cE : decide (0 ≤ (T)) = true := decide_eq_true bm
                 clear bm
                 by_cases bh : (T) ≤ (A.length : Int)
                 ·rw [if_pos bh] at H
                  have cp := eq_true bh
                  have cz : decide ((T) ≤ (A.length : Int)) = true := decide_eq_true bh
                  clear bh
                  obtain ⟨G, aj⟩ : ∃ y_ : List Int, y_ = (A.drop ((T) : Int).toNat) := ⟨_, rfl⟩
                  replace H : (if O.length + G.length < 17592186044416 then (spec_TopOf.l0 k3 (O ++ G) ah) else (none)) = some r := by first | (rw [aj]; with_reducible exact H) | (have I := (Option.bind_some _ _).symm.trans H; rw [aj]; with_reducible exact I) | (have I := (Option.bind_some _ _).symm.trans H; with_reducible exact I) | with_reducible exact H | (rw [aj]; exact H) | exact H
                  have aH := zp.mk aj
                  clear aj
                  by_cases bw : O.length + G.length < 17592186044416
                  ·rw [if_pos bw] at H
                   have bU := zp.mk bw
                   clear bw
                   obtain ⟨bK, ax⟩ : ∃ y_ : List Int, y_ = (O ++ G) := ⟨_, rfl⟩
                   replace H : (spec_TopOf.l0 k3 bK ah) = some r := by first | (rw [ax]; with_reducible exact H) | (have I := (Option.bind_some _ _).symm.trans H; rw [ax]; with_reducible exact I) | (have I := (Option.bind_some _ _).symm.trans H; with_reducible exact I) | with_reducible exact H | (rw [ax]; exact H) | exact H
                   have bT := zp.mk ax
                   clear ax
                   have H' := zp.mk H
                   clear H
                   obtain ⟨da, l, cd⟩ := Kd.R_slice D.out
                   subst cd
                   have bn : 0 ≤ (B : Int) := of_decide_eq_true (by first | (with_reducible assumption) | assumption)
                   have a7 : B < (A.length : Int) := of_decide_eq_true (by first | (with_reducible assumption) | assumption)
                   obtain ⟨Y, b2, cf⟩ := Kd.at_int (Kd.R_reads' D.out).2.2 B bn a7
                   cases b2
                   replace bn := eq_true bn
                   replace a7 := eq_true a7
                   try go_wp2_with (first | ((with_reducible refine gate_builtin (b := .append) (xs := #[.tmp 39, .tmp 44]) rfl ?_); (try (refine gate_guard (by rfl) ?_; dsimp only)); at_builtin; refine Kd.R_append (Kd.int .i64) (w0 := w) w.heap.size rfl (.tmp 39) (.tmp 44) 25 3 (.int .i64 0) 8 rfl Try.underlying25 info3 rfl (by decide) (by omega) u6 Z (rd A B) [.int .i64 (rd A B)] (fun k_ => some k_ ≠ (.slice (some Y) A.length l : Value).ownBlock) (fun _ => False) rfl rfl ?aP (fun _ hk => hk.elim) ?aF ?aO ?aB ?aS ?aL ?_; (case aP => exact rfl); (case aB => exact (zv6 HB.out)); (case aF => exact (fun k_ hk => Kd.fresh' (Kd.R_lt (by (with_reducible repeat (first | apply Kd.R_alloc | apply Kd.R_drewN | apply Kd.R_drew)); exact D.out)) k_ hk)); (case aO => exact (by (with_reducible repeat (first | apply Kd.R_alloc | apply Kd.R_drewN | apply Kd.R_drew)); exact X.out)); (case aS => exact (zk (zv6 HB.out))); (case aL => have := bN.out; omega); intro ac co ho hb hg hat; rw [← bW.out] at ho; have ag := zp.mk (Kd.R_after (ok := (fun _ => True)) (by (with_reducible repeat (first | apply Kd.R_alloc | apply Kd.R_drewN | apply Kd.R_drew)); exact Kd.R_mono D.out (fun _ hk => ⟨trivial, hk⟩)) hg hat); have af := zp.mk (hb); have aJ := zp.mk (ho); clear D; clear HB; clear X; have D := ag; have HB := af; have U := aJ; clear ag af aJ; clear ho hb hg hat))
                   replace D := zp.mk (Kd.R_drew D.out)
                   replace U := zp.mk (Kd.R_drew U.out)
                   replace HB := zp.mk (zb HB.out)
                   have bR : (B : Int) ≤ ((A.length : Int) : Int) := of_decide_eq_true (by first | (with_reducible assumption) | assumption)
                   obtain ⟨cO, bp, _, bQ, _⟩ := info_parts info3
                   have aK : A.length ≤ l := (Kd.R_reads' D.out).2.1
                   have bG : Kd.C (Kd.int .i64) _ (some Y) A.length A := (Kd.R_reads' D.out).2.2
                   have bs := cut_to (P := Try.prog) 25 3 .i64 Try.underlying25 bp (some Y) A.length l B (of_decide_eq_true (by first | (with_reducible assumption) | assumption)) bR aK
                   have bi := Kd.C_take (m := (B : Int).toNat) bG (by omega)
                   have bg : W.length = (B : Int).toNat := (by rw [aE.out, List.length_take]; omega)
                   rw [← aE.out] at bi
                   rw [← bg] at bs
                   have u := zp.mk bi
                   have ct := zp.mk (show W.length ≤ l from by omega)
                   clear bi bG aK bp bQ
                   have cU := zp.mk bg
                   clear bg
                   have bF := zp.mk (show (B : Int).toNat ≤ A.length from by omega)
                   replace bR := eq_true bR
                   have bO : ((T) : Int) ≤ ((A.length : Int) : Int) := of_decide_eq_true (by first | (with_reducible assumption) | assumption)
                   obtain ⟨cP, a8, _, a5, _⟩ := info_parts info3
                   have av : A.length ≤ l := (Kd.R_reads' D.out).2.1
                   have bJ : Kd.C (Kd.int .i64) _ (some Y) A.length A := (Kd.R_reads' D.out).2.2
                   have b4 : (0 : Int) ≤ ((T) : Int) := of_decide_eq_true (by first | (with_reducible assumption) | assumption)
                   have bz := cut_from (P := Try.prog) 25 3 .i64 Try.underlying25 a8 1 a5 (some Y) A.length l (T) b4 bO
                   have aN := Kd.C_drop (m := ((T) : Int).toNat) (c := l) bJ (by omega) av
                   obtain ⟨bY, aV⟩ : ∃ A1, A1 = (if l = ((T) : Int).toNat then (some Y) else ((some Y) : Option Addr).map (·.add (((T) : Int).toNat * 1))) := ⟨_, rfl⟩
                   obtain ⟨cv, a6⟩ : ∃ c1, c1 = l - ((T) : Int).toNat := ⟨_, rfl⟩
                   have aW : G.length = A.length - ((T) : Int).toNat := (by rw [aH.out, List.length_drop] <;> omega)
                   rw [show (A).drop ((T) : Int).toNat = G from aH.out.symm] at aN
                   replace aN : Kd.C (Kd.int .i64) _ bY G.length G := (by rw [aV]; exact aN)
                   rw [← aW, ← aV, ← a6] at bz
                   have s := zp.mk aN
                   have cx := zp.mk (show G.length ≤ cv from by rw [aW, a6]; exact Nat.sub_le_sub_right av _)
                   clear aN bJ av a8 a5 a6
                   have cK := zp.mk aW
                   have bH := zp.mk aV
                   clear aW aV
                   have bE := zp.mk (show ((T) : Int).toNat ≤ A.length from by omega)
                   replace bO := eq_true bO
                   refine start_ (n := 11) (S := fun w' => True) (ds := []) (zB 11 0) (by kernel_rfl) rfl rfl trivial (fun hHeld => ?_); refine with_tabW spec_TopOf.tab11 spec_TopOf.bits11 (fun HT_ HW_ => ?_)
                   generalize co.drew = db at D U HB u s hHeld ⊢
                   refine zP 1 47 (zB 11 2) HT_ ?_
                   refine zP 2 48 (zB 11 6) HT_ ?_
                   refine zP 3 49 (zB 11 14) HT_ ?_
                   refine zP 5 51 (zB 11 46) HT_ ?_
                   refine zP 6 52 (zB 11 110) HT_ ?_
                   refine zP 7 53 (zB 11 238) HT_ ?_
                   refine zP 8 54 (zB 11 494) HT_ ?_
                   refine one_ (i := 0) (N := some 46) (zB 11 495) rfl rfl (one_of HT_.out (by kernel_rfl)) (by decide) (fun K hK => ?_)
                   refine Kd.R_lit_step (Kd.int .i64) _ 3 ?hg (N := 46) ?hd (xs := ([] : List Int)) (inner := []) (ok := fun _ => True) (okp := fun _ => True) ?hr ?hp (fun _ hk => hk) trivial (Below.refl _ _) (Nat.le_refl _) (by simp) ?_; (case hd => rfl); (case hg => rfl); (case hr => first | (go_simp; done) | (go_simp; rfl)); (case hp => exact (Reps.none _ _))
                   intro cl de am hb hg_ hnew_
                   clear hg_ hnew_
                   (first | rw [← bj.out] at am | (simp only [Int.reduceToNat] at am; rw [← bj.out] at am))
                   have bo := zp.mk (Kd.R_lower (Kd.R_new' (Kd.R_new' am (Kd.R_lt (by (with_reducible repeat (first | apply Kd.R_alloc | apply Kd.R_drewN | apply Kd.R_drew)); exact D.out))) (Kd.R_lt (by (with_reducible repeat (first | apply Kd.R_alloc | apply Kd.R_drewN | apply Kd.R_drew)); exact U.out))) (zk (zv6 HB.out)))
                   replace D := zp.mk (Kd.R_elder' (by (with_reducible repeat (first | apply Kd.R_alloc | apply Kd.R_drewN | apply Kd.R_drew)); exact D.out) (Kd.R_base am) hb)
                   replace U := zp.mk (Kd.R_elder' (by (with_reducible repeat (first | apply Kd.R_alloc | apply Kd.R_drewN | apply Kd.R_drew)); exact U.out) (Kd.R_base am) hb)
                   replace u := zp.mk (Kd.zt (by repeat (first | (with_reducible exact u.out) | (with_reducible refine Kd.zr ?_ _) | (with_reducible refine Kd.zq ?_ _) | (with_reducible refine Kd.C_drew ?_) | exact u.out)) hb)
                   replace s := zp.mk (Kd.zt (by repeat (first | (with_reducible exact s.out) | (with_reducible refine Kd.zr ?_ _) | (with_reducible refine Kd.zq ?_ _) | (with_reducible refine Kd.C_drew ?_) | exact s.out)) hb)
                   replace HB := zp.mk (zj (zv6 HB.out) hb)
                   clear hb am
                   refine hK.out _ _ trivial (fun hHeld => ?_)
                   clear hK K
                   refine norm_ (a' := ?_) ?_ ?_
                   rotate_left
                   ·show Act.put _ (some 46) _ = _
                    simp only [Act.put, zs1, zs2, zs3, i64_w, i32_w]
                    rfl
                   refine one_ (i := 4) (N := some 50) (zB 11 511) rfl rfl (one_of HT_.out (by kernel_rfl)) (by decide) (fun K hK => ?_)
                   refine Kd.R_append_rows_step (Kd.int .i64) (w0 := w) w.heap.size (by rfl) (.tmp 46) (.tmp 49) 25 3 (.int .i64 0) 8 rfl Try.underlying25 info3 rfl (by decide) (by omega) cl x W _ _ _ (fun k_ => some k_ ≠ (.slice (some Y) A.length l : Value).ownBlock ∧ some k_ ≠ (ac : Value).ownBlock) (fun _ => False) rfl rfl ?aO ?aR (fun _ _ h => h) (fun _ h => h.elim) ?aF ?aB ?aS ?aL ?_
                   (case aR => repeat (first | exact (by repeat (first | (with_reducible exact u.out) | (with_reducible refine Kd.zr ?_ _) | (with_reducible refine Kd.zq ?_ _) | (with_reducible refine Kd.C_drew ?_) | exact u.out)) | (with_reducible refine Kd.zr ?_ _) | (with_reducible refine Kd.zq ?_ _) | (with_reducible refine Kd.C_drew ?_)))
                   (case aB => exact (zv6 HB.out))
                   (case aF => exact (fun k_ hk => ⟨Kd.fresh' (Kd.R_lt (by (with_reducible repeat (first | apply Kd.R_alloc | apply Kd.R_drewN | apply Kd.R_drew)); exact D.out)) k_ hk, Kd.fresh' (Kd.R_lt (by (with_reducible repeat (first | apply Kd.R_alloc | apply Kd.R_drewN | apply Kd.R_drew)); exact U.out)) k_ hk⟩))
                   (case aO => exact (by (with_reducible repeat (first | apply Kd.R_alloc | apply Kd.R_drewN | apply Kd.R_drew)); exact Kd.R_mono bo.out (fun _ hk => ⟨hk.1.2, hk.2⟩)))
                   (case aS => exact (zk (zv6 HB.out)))
                   (case aL => have := bM.out; omega)
                   intro b7 ce ho hb hg hat
                   rw [← bP.out] at ho
                   have ag := zp.mk (Kd.R_after (ok := (fun k_ => some k_ ≠ (ac : Value).ownBlock)) (by (with_reducible repeat (first | apply Kd.R_alloc | apply Kd.R_drewN | apply Kd.R_drew)); exact Kd.R_mono D.out (fun _ hk => ⟨hk.1.2, hk.2⟩)) hg hat)
                   have af := zp.mk (Kd.R_after (ok := (fun k_ => some k_ ≠ (.slice (some Y) A.length l : Value).ownBlock)) (by (with_reducible repeat (first | apply Kd.R_alloc | apply Kd.R_drewN | apply Kd.R_drew)); exact U.out) hg hat)
                   have aJ := zp.mk (hb)
                   have br := zp.mk ((show Kd.C (Kd.int .i64) ce (some Y) W.length W from by rw [aE.out]; exact Kd.C_take (m := (B : Int).toNat) ((Kd.R_reads' (Kd.R_after (ok := (fun k_ => some k_ ≠ (ac : Value).ownBlock)) (by (with_reducible repeat (first | apply Kd.R_alloc | apply Kd.R_drewN | apply Kd.R_drew)); exact Kd.R_mono D.out (fun _ hk => ⟨hk.1.2, hk.2⟩)) hg hat)).2.2) bF.out))
                   have bq := zp.mk ((show Kd.C (Kd.int .i64) ce bY G.length G from by rw [aH.out, bH.out]; exact Kd.C_drop (m := ((T) : Int).toNat) (c := l) ((Kd.R_reads' (Kd.R_after (ok := (fun k_ => some k_ ≠ (ac : Value).ownBlock)) (by (with_reducible repeat (first | apply Kd.R_alloc | apply Kd.R_drewN | apply Kd.R_drew)); exact Kd.R_mono D.out (fun _ hk => ⟨hk.1.2, hk.2⟩)) hg hat)).2.2) bE.out ((Kd.R_reads' (Kd.R_after (ok := (fun k_ => some k_ ≠ (ac : Value).ownBlock)) (by (with_reducible repeat (first | apply Kd.R_alloc | apply Kd.R_drewN | apply Kd.R_drew)); exact Kd.R_mono D.out (fun _ hk => ⟨hk.1.2, hk.2⟩)) hg hat)).2.1)))
                   have bc := zp.mk (ho)
                   clear D
                   clear U
                   clear HB
                   clear u
                   clear s
                   clear bo
                   have D := ag
                   have U := af
                   have HB := aJ
                   have u := br
                   have s := bq
                   have bk := bc
                   clear ag af aJ br bq bc
                   clear ho hb hg hat
                   refine hK.out _ _ trivial (fun hHeld => ?_)
                   clear hK K
                   refine norm_ (a' := ?_) ?_ ?_
                   rotate_left
                   ·show Act.put _ (some 50) _ = _
                    simp only [Act.put, zs1, zs2, zs3, i64_w, i32_w]
                    rfl
                   refine one_ (i := 9) (N := some 55) (zB 11 1023) rfl rfl (one_of HT_.out (by kernel_rfl)) (by decide) (fun K hK => ?_)
                   refine Kd.R_append_rows_step (Kd.int .i64) (w0 := w) w.heap.size (by rfl) (.tmp 50) (.tmp 54) 25 3 (.int .i64 0) 8 rfl Try.underlying25 info3 rfl (by decide) (by omega) b7 O G _ _ _ (fun k_ => some k_ ≠ (.slice (some Y) A.length l : Value).ownBlock ∧ some k_ ≠ (ac : Value).ownBlock) (fun _ => False) rfl rfl ?aO ?aR (fun _ _ h => h) (fun _ h => h.elim) ?aF ?aB ?aS ?aL ?_
                   (case aR => repeat (first | exact (by repeat (first | (with_reducible exact s.out) | (with_reducible refine Kd.zr ?_ _) | (with_reducible refine Kd.zq ?_ _) | (with_reducible refine Kd.C_drew ?_) | exact s.out)) | (with_reducible refine Kd.zr ?_ _) | (with_reducible refine Kd.zq ?_ _) | (with_reducible refine Kd.C_drew ?_)))
                   (case aB => exact (zv6 HB.out))
                   (case aF => exact (fun k_ hk => ⟨Kd.fresh' (Kd.R_lt (by (with_reducible repeat (first | apply Kd.R_alloc | apply Kd.R_drewN | apply Kd.R_drew)); exact D.out)) k_ hk, Kd.fresh' (Kd.R_lt (by (with_reducible repeat (first | apply Kd.R_alloc | apply Kd.R_drewN | apply Kd.R_drew)); exact U.out)) k_ hk⟩))
                   (case aO => exact (by (with_reducible repeat (first | apply Kd.R_alloc | apply Kd.R_drewN | apply Kd.R_drew)); exact bk.out))
                   (case aS => exact (zk (zv6 HB.out)))
                   (case aL => have := bU.out; omega)
                   intro cZ b8 ho hb hg hat
                   rw [← bT.out] at ho
                   have ag := zp.mk (Kd.R_after (ok := (fun k_ => some k_ ≠ (ac : Value).ownBlock)) (by (with_reducible repeat (first | apply Kd.R_alloc | apply Kd.R_drewN | apply Kd.R_drew)); exact D.out) hg hat)
                   have af := zp.mk (Kd.R_after (ok := (fun k_ => some k_ ≠ (.slice (some Y) A.length l : Value).ownBlock)) (by (with_reducible repeat (first | apply Kd.R_alloc | apply Kd.R_drewN | apply Kd.R_drew)); exact U.out) hg hat)
                   have aJ := zp.mk (hb)
                   have br := zp.mk ((show Kd.C (Kd.int .i64) b8 (some Y) W.length W from by rw [aE.out]; exact Kd.C_take (m := (B : Int).toNat) ((Kd.R_reads' (Kd.R_after (ok := (fun k_ => some k_ ≠ (ac : Value).ownBlock)) (by (with_reducible repeat (first | apply Kd.R_alloc | apply Kd.R_drewN | apply Kd.R_drew)); exact D.out) hg hat)).2.2) bF.out))
                   have bq := zp.mk ((show Kd.C (Kd.int .i64) b8 bY G.length G from by rw [aH.out, bH.out]; exact Kd.C_drop (m := ((T) : Int).toNat) (c := l) ((Kd.R_reads' (Kd.R_after (ok := (fun k_ => some k_ ≠ (ac : Value).ownBlock)) (by (with_reducible repeat (first | apply Kd.R_alloc | apply Kd.R_drewN | apply Kd.R_drew)); exact D.out) hg hat)).2.2) bE.out ((Kd.R_reads' (Kd.R_after (ok := (fun k_ => some k_ ≠ (ac : Value).ownBlock)) (by (with_reducible repeat (first | apply Kd.R_alloc | apply Kd.R_drewN | apply Kd.R_drew)); exact D.out) hg hat)).2.1)))
                   have bc := zp.mk (ho)
                   clear D
                   clear U
                   clear HB
                   clear u
                   clear s
                   clear bk
                   have D := ag
                   have U := af
                   have HB := aJ
                   have u := br
                   have s := bq
                   have bZ := bc
                   clear ag af aJ br bq bc
                   clear ho hb hg hat
                   refine hK.out _ _ trivial (fun hHeld => ?_)
                   clear hK K
                   refine norm_ (a' := ?_) ?_ ?_
                   rotate_left
                   ·show Act.put _ (some 55) _ = _
                    simp only [Act.put, zs1, zs2, zs3, i64_w, i32_w]
                    rfl
                   refine zP 10 5 (zB 11 2047) HT_ ?_
                   refine done_ (done_of HT_.out (by kernel_rfl)) ?_
                   try go_wp2
                   go_roundg k3
                   case measure => have := aM.out; have := aC.out; have := aZ.out; omega
                   case rel => exact ⟨(bK), (ah), H', ⟨by have := aM.out; have := aC.out; have := aZ.out; omega⟩, ⟨by (with_reducible repeat (first | apply Kd.R_alloc | apply Kd.R_drewN | apply Kd.R_drew)); exact Kd.R_mono bZ.out (fun _ hk => hk.2)⟩, ⟨by (with_reducible repeat (first | apply Kd.R_alloc | apply Kd.R_drewN | apply Kd.R_drew)); exact Kd.R_mono U.out (fun _ hk => hk.2)⟩, ⟨zv6 HB.out⟩⟩
                  ·rw [if_neg bw] at H
                   exact absurd H (by simp)
                 ·rw [if_neg bh] at H
                  exact absurd H (by simp)
                ·rw [if_neg bm] at H
                 exact absurd H (by simp)
               ·rw [if_neg bx] at H
                exact absurd H (by simp)
              ·rw [if_neg bb] at H
               exact absurd H (by simp)
             ·rw [if_neg bD] at H
              exact absurd H (by simp)
            ·rw [if_neg bA] at H
             exact absurd H (by simp)
           ·rw [if_neg bC] at H
            exact absurd H (by simp)
       ·replace a3 := Bool.eq_false_iff.mpr a3
        subst a3
        have H1 : (some Z) = some r := by rw [if_neg (show ¬ (false = true) by decide)] at H; exact H
        clear H
        have H := H1
        clear H1
        obtain rfl := Option.some.inj H
        go_wp2
        go_ret
        exact ⟨_, by first | rfl | (simp [errW_none, errW_some] <;> rfl) | (simp [*, errW_none, errW_some] <;> rfl), by (with_reducible repeat (first | apply Kd.R_alloc | apply Kd.R_drewN | apply Kd.R_drew)); exact Kd.R_mono X.out (fun _ hk => trivial), zv6 HB.out⟩
  ·rw [if_neg c4] at H
   exact absurd H (by simp)
 ·rw [if_neg c3] at H
  exact absurd H (by simp)

end Go.Proofs.Ytnnahpmnkpmopaa.QFnExactAggJoin
