/- Proved: calls of the program come to the answers of the plain Lean functions that stand beside them. Each contract names its conditions. (Written by a program of this session, over the printer of the kit.) -/
import Derived.Test.YtdpoliolinghfaaZPolicySetQFnExactPolicySetx0
import Derived.Test.YtdpoliolinghfaaZPolicySetQFnExactPolicySetx5
import Derived.Test.YtdpoliolinghfaaZPolicySetQFnExactPolicySetx6
import Derived.Test.YtdpoliolinghfaaZPolicySetQFnExactPolicySetx7
namespace Go.Proofs.Ytdpoliolinghfaa.QFnExactPolicySet
open Go.RowKit Go.Proofs.YtdpoliolinghfaaW.PrintWords Go.Proofs.YtdpoliolinghfaaW.PrintLast Go.Proofs.YtdpoliolinghfaaW.PrintMore
attribute [local go_sem] max2_int min2_int max_two min_two max_three min_three max_four min_four   -- for this text's walks alone
set_option linter.unusedVariables false
set_option linter.unusedSimpArgs false

/-! ### spec_PolicySet: function 63 -/
def spec_PolicySet.t (a b : List S58) : Option (List S58 × Bool) := if a.length + b.length < 4398046511104 then some (a ++ b, true) else none
theorem spec_PolicySet.t_some {a b r1 : List S58} {r2 : Bool} (h : spec_PolicySet.t a b = some (r1, r2)) : a.length + b.length < 4398046511104 ∧ r1 = a ++ b ∧ r2 = true := by
 unfold spec_PolicySet.t at h
 split at h
 ·rename_i c
  injection h with h
  injection h with h1 h2
  exact ⟨c, h1.symm, h2.symm⟩
 ·cases h
mutual
def spec_PolicySet.j0 : Nat → List (S58) → Bool → Int → Int → Int → Int → Option ((List (S58)) × Bool)
 | 0, _, _, _, _, _, _ => none
 | k + 1, x1, x19, x213000, x213001, x213002, x213003 => if x19 = true then (some (([] : List (S58)), false)) else ((spec_l04Without.f k x1 x213000 x213001 x213002 x213003).bind fun t215 => (if (t215.length : Int) = 12 then (some (([] : List (S58)), false)) else (spec_PolicySet.l0 k t215 0 x213000 x213001 x213002 x213003)))
def spec_PolicySet.l0 : Nat → List (S58) → Int → Int → Int → Int → Int → Option ((List (S58)) × Bool)
 | 0, _, _, _, _, _, _ => none
 | k + 1, x8, x9, x213000, x213001, x213002, x213003 => if x9 < (x8.length : Int) then (if 0 ≤ x9 then ((spec_l04Less.f ((rd_T58 x8 x9).f0) ((rd_T58 x8 x9).f1) ((rd_T58 x8 x9).f2) ((rd_T58 x8 x9).f3) x213000 x213001 x213002 x213003).bind fun t219 => (if t219 = true then (spec_PolicySet.l0 k x8 (wrap64 (x9 + 1)) x213000 x213001 x213002 x213003) else ((some (([] : List (S58)) : List (S58))).bind fun y220 => (if x9 ≤ (x8.length : Int) then ((some (x8.take (x9 : Int).toNat : List (S58))).bind fun y223 => (if y220.length + y223.length < 4398046511104 then ((some (y220 ++ y223 : List (S58))).bind fun y227 => ((some (([(⟨x213000, x213001, x213002, x213003⟩ : S58)] : List (S58)) : List (S58))).bind fun y230 => (if y227.length + y230.length < 4398046511104 then (spec_PolicySet.t (y227 ++ y230) (x8.drop (x9 : Int).toNat)) else (none)))) else (none))) else (none))))) else (none)) else ((some (([] : List (S58)) : List (S58))).bind fun y240 => (if 0 ≤ x9 then (if x9 ≤ (x8.length : Int) then ((some (x8.take (x9 : Int).toNat : List (S58))).bind fun y243 => (if y240.length + y243.length < 4398046511104 then ((some (y240 ++ y243 : List (S58))).bind fun y247 => ((some (([(⟨x213000, x213001, x213002, x213003⟩ : S58)] : List (S58)) : List (S58))).bind fun y250 => (if y247.length + y250.length < 4398046511104 then (spec_PolicySet.t (y247 ++ y250) (x8.drop (x9 : Int).toNat)) else (none)))) else (none))) else (none)) else (none)))
end
def spec_PolicySet.f (k : Nat) (a0_0 : Int) (l0_1 : List Int) (l1 : List (S58)) (a2_0 : Int) (a2_1 : Int) (a2_2 : Int) (a2_3 : Int) : Option ((List (S58)) × Bool) := (spec_PolicyOk.f k a0_0 l0_1 l1).bind fun t213 => (if t213 = true then ((spec_PunctOk.f k a0_0 l0_1 a2_0 a2_1 a2_2 a2_3).bind fun t214 => (spec_PolicySet.j0 k l1 (!t214) a2_0 a2_1 a2_2 a2_3)) else (spec_PolicySet.j0 k l1 true a2_0 a2_1 a2_2 a2_3))
def spec_PolicySet.T7 : Bool × List (List Nat × List Nat) := (true, [([], []), ([], []), ([1], [1]), ([0, 2], [0, 2]), ([3], [3]), ([4], [4]), ([4], [4]), ([5, 6, 4], [4, 5, 6]), ([7, 4], [4, 7]), ([4], [4]), ([8, 9, 4, 4], [4, 8, 9]), ([4, 10], [4, 10])])
def spec_PolicySet.B7 : List Nat := [0, 0, 2, 7, 15, 31, 31, 127, 255, 31, 1023, 2047]
theorem spec_PolicySet.tab7 : rtab .any (opsOf Try.f63 7) = spec_PolicySet.T7 := by kernel_rfl
theorem spec_PolicySet.bits7 : waitsOk spec_PolicySet.T7.2 spec_PolicySet.B7 = true := by kernel_rfl
def spec_PolicySet.T9 : Bool × List (List Nat × List Nat) := (true, [([], []), ([], []), ([], []), ([1, 2], [1, 2]), ([0, 3], [0, 3]), ([], []), ([5], [5]), ([4, 6, 4], [4, 6]), ([], []), ([], []), ([8, 9], [8, 9]), ([7, 10, 7], [7, 10]), ([11, 11, 0, 1, 2, 3, 4, 5, 6, 7, 8, 9, 10, 11], [11]), ([12, 0, 1, 2, 3, 4, 5, 6, 7, 8, 9, 10, 11, 12], [])])
def spec_PolicySet.B9 : List Nat := [0, 0, 0, 6, 15, 0, 32, 127, 0, 0, 768, 2047, 4095, 8191]
theorem spec_PolicySet.tab9 : rtab .any (opsOf Try.f63 9) = spec_PolicySet.T9 := by kernel_rfl
theorem spec_PolicySet.bits9 : waitsOk spec_PolicySet.T9.2 spec_PolicySet.B9 = true := by kernel_rfl
set_option maxHeartbeats 8000000 in
set_option maxRecDepth 100000 in
theorem spec_PolicySet.calls (k : Nat) (a0_0 : Int) (A0_1 : Option Addr) (c0_1 : Nat) (l0_1 : List Int) (A1 : Option Addr) (c1 : Nat) (l1 : List (S58)) (a2_0 : Int) (a2_1 : Int) (a2_2 : Int) (a2_3 : Int) (r1 : List (S58)) (r2 : Bool) (w : World) (hr0_1 : Kd.C (Kd.int .u64) w A0_1 l0_1.length l0_1) (hc0_1 : l0_1.length ≤ c0_1) (hr1 : Kd.C k58 w A1 l1.length l1) (hc1 : l1.length ≤ c1) (h : spec_PolicySet.f k a0_0 l0_1 l1 a2_0 a2_1 a2_2 a2_3 = some (r1, r2)) :
  Calls Try.prog 63 #[.agg #[.int .i64 a0_0, .slice A0_1 l0_1.length c0_1], .slice A1 l1.length c1, .agg #[.int .i64 a2_0, .int .i64 a2_1, .int .i64 a2_2, .int .i64 a2_3]] w fun e w' => ∃ v0_ : Value, e = .returned (.tuple #[v0_, .bool r2]) ∧ Kd.R k58 58 w' w.heap.size (fun _ => True) v0_ r1 ∧ Below w.heap.size w w' := by
 have hu27 := Try.underlying27
 have hu58 := Try.underlying58
 have HR0_1 := zp.mk hr0_1
 have HC0_1 := zp.mk hc0_1
 clear hr0_1 hc0_1
 have HR1 := zp.mk hr1
 have HC1 := zp.mk hc1
 clear hr1 hc1
 have HB := zp.mk (Below.refl w.heap.size w)
 have H : ((spec_PolicyOk.f k a0_0 l0_1 l1).bind fun t213 => (if t213 = true then ((spec_PunctOk.f k a0_0 l0_1 a2_0 a2_1 a2_2 a2_3).bind fun t214 => (spec_PolicySet.j0 k l1 (!t214) a2_0 a2_1 a2_2 a2_3)) else (spec_PolicySet.j0 k l1 true a2_0 a2_1 a2_2 a2_3))) = some (r1, r2) := h
 clear h
 have HC4 := zp.mk H
 clear H
 go_enter Try.func63, Try.ntmps63
 go_upto_region 1 with (first | ((with_reducible refine zo (N := 3) rfl ?_); refine zm ?hg (N := 3) ?hd (cs := #[.int .i64 a0_0, .slice A0_1 l0_1.length c0_1]) (t := 27) ?hr ?_; (case hd => rfl); (case hg => rfl); (case hr => first | (go_simp; done) | (go_simp; rfl)); intro gb211 hg w5 hbox hb; have BK211 := zp.mk (hbox); have GW211 := zp.mk ((zv3 (zv6 HB.out) hg)); have GE211 := zp.mk ((zv3 (zv6 HB.out) hg)); replace HB := zp.mk (zj (zv6 HB.out) hb); clear hb hbox hg) | ((with_reducible refine zo (N := 5) rfl ?_); refine zm ?hg (N := 5) ?hd (cs := #[.int .i64 a2_0, .int .i64 a2_1, .int .i64 a2_2, .int .i64 a2_3]) (t := 58) ?hr ?_; (case hd => rfl); (case hg => rfl); (case hr => first | (go_simp; done) | (go_simp; rfl)); intro gb212 hg w6 hbox hb; have BK212 := zp.mk (hbox); have GW212 := zp.mk ((zv3 (zv7 HB.out) hg)); have GE212 := zp.mk ((zv3 (zv7 HB.out) hg)); have NB211_212 := zp.mk ((by rw [hg]; exact Nat.ne_of_lt (blk_lt (g := gb211) (o := .cells #[.int .i64 a0_0, .slice A0_1 l0_1.length c0_1] 27 (0, 0)) (zv8 BK211.out)) : gb211 ≠ gb212)); have NB212_211 := zp.mk ((by rw [hg]; exact Nat.ne_of_gt (blk_lt (g := gb211) (o := .cells #[.int .i64 a0_0, .slice A0_1 l0_1.length c0_1] 27 (0, 0)) (zv8 BK211.out)) : gb212 ≠ gb211)); replace BK211 := zp.mk (zl (zv8 BK211.out) hb); replace HB := zp.mk (zj (zv7 HB.out) hb); clear hb hbox hg))
 (try simp only [Act.put, zs1, zs2, zs3])
 go_cut [19] (fun v19 wc => ∃ (kq : Nat) (x19_3 : Bool), v19 = .bool x19_3 ∧ zp (spec_PolicySet.j0 kq l1 x19_3 a2_0 a2_1 a2_2 a2_3 = some (r1, r2)) ∧ zp (kq ≤ k) ∧ zp (wc.heap[gb211]? = some (.cells #[.int .i64 a0_0, (.slice A0_1 l0_1.length c0_1)] 27 (0, 0))) ∧ zp (wc.heap[gb212]? = some (.cells #[.int .i64 a2_0, .int .i64 a2_1, .int .i64 a2_2, .int .i64 a2_3] 58 (0, 0))) ∧ zp (Below w.heap.size w wc))
 case first =>
  have H := HC4.out
  clear HC4
  replace H := zs4 H
  obtain ⟨t213, A70, H⟩ := H
  replace H : (if t213 = true then ((spec_PunctOk.f k a0_0 l0_1 a2_0 a2_1 a2_2 a2_3).bind fun t214 => (spec_PolicySet.j0 k l1 (!t214) a2_0 a2_1 a2_2 a2_3)) else (spec_PolicySet.j0 k l1 true a2_0 a2_1 a2_2 a2_3)) = some (r1, r2) := H
  have A7 := zp.mk A70
  clear A70
  by_cases c8 : t213 = true
  ·subst c8
   have H1 : ((spec_PunctOk.f k a0_0 l0_1 a2_0 a2_1 a2_2 a2_3).bind fun t214 => (spec_PolicySet.j0 k l1 (!t214) a2_0 a2_1 a2_2 a2_3)) = some (r1, r2) := by rw [if_pos rfl] at H; exact H
   clear H
   have H := H1
   clear H1
   replace H := zs4 H
   obtain ⟨t214, A90, H⟩ := H
   replace H : (spec_PolicySet.j0 k l1 (!t214) a2_0 a2_1 a2_2 a2_3) = some (r1, r2) := H
   have A9 := zp.mk A90
   clear A90
   have H' := zp.mk H
   clear H
   have hnb10 := NB211_212.out
   have hnc10 := NB212_211.out
   have y11_0 := zt0 BK211.out
   have y11_1 := zt1 BK211.out
   have u11_0 := zd BK211.out 0
   have u11_1 := zd BK211.out 1
   go_wp2_with (first | ((with_reducible refine zn (f := 53) rfl ?_); refine goesL_ (some 12) rfl rfl Try.func53 (by kernel_rfl) rfl #[.agg #[.int .i64 a0_0, .slice A0_1 l0_1.length c0_1], .slice A1 l1.length c1] rfl (by (try simp only [List.map_toArray, List.map_cons, List.map_nil]); first | done | rfl | (simp only [List.length_drop, List.length_take]; rfl)) ?_; (with_reducible refine (spec_PolicyOk.calls k a0_0 _ _ l0_1 _ _ l1 true _ ?side1 ?side2 ?side3 ?side4 A7.out).mono ?_); (case side1 => repeat (first | exact (Kd.zt HR0_1.out HB.out) | (with_reducible refine Kd.zr ?_ _) | (with_reducible refine Kd.zq ?_ _) | (with_reducible refine Kd.C_drew ?_))); (case side2 => exact HC0_1.out); (case side3 => repeat (first | exact (Kd.zt HR1.out HB.out) | (with_reducible refine Kd.zr ?_ _) | (with_reducible refine Kd.zq ?_ _) | (with_reducible refine Kd.C_drew ?_))); (case side4 => exact HC1.out); rintro e w12 ⟨rfl, hb⟩; refine ⟨_, rfl, ?_⟩; replace BK211 := zp.mk (zl (zv8 BK211.out) hb); replace BK212 := zp.mk (zl (zv8 BK212.out) hb); replace HB := zp.mk (zj (zv7 HB.out) hb); (try clear hb); (try clear hb2); (try clear hk); (try clear hi); have y13_0 := zt0 BK211.out; have y13_1 := zt1 BK211.out; have u13_0 := zd BK211.out 0; have u13_1 := zd BK211.out 1; have y14_0 := zt0 BK212.out; have y14_1 := zt1 BK212.out; have y14_2 := zt2 BK212.out; have y14_3 := zt3 BK212.out; have u14_0 := zd BK212.out 0; have u14_1 := zd BK212.out 1; have u14_2 := zd BK212.out 2; have u14_3 := zd BK212.out 3) | (go_at_call 49; (with_reducible refine (spec_PunctOk.calls k a0_0 _ _ l0_1 a2_0 a2_1 a2_2 a2_3 t214 _ ?side1 ?side2 A9.out).mono ?_); (case side1 => repeat (first | exact (Kd.zt HR0_1.out HB.out) | (with_reducible refine Kd.zr ?_ _) | (with_reducible refine Kd.zq ?_ _) | (with_reducible refine Kd.C_drew ?_))); (case side2 => exact HC0_1.out); rintro e w15 ⟨rfl, hb⟩; replace BK211 := zp.mk (zl (zv8 BK211.out) hb); replace BK212 := zp.mk (zl (zv8 BK212.out) hb); replace HB := zp.mk (zj (zv7 HB.out) hb); (try clear hb); (try clear hb2); (try clear hk); (try clear hi)))
   go_meet
   case rel => exact ⟨_, (!t214), (by first | rfl | (simp; done) | (simp [*]; done)), H', ⟨by first | omega | exact Nat.le_refl _⟩, ⟨zv8 BK211.out⟩, ⟨zv8 BK212.out⟩, ⟨zv7 HB.out⟩⟩
  ·replace c8 := Bool.eq_false_iff.mpr c8
   subst c8
   have H1 : (spec_PolicySet.j0 k l1 true a2_0 a2_1 a2_2 a2_3) = some (r1, r2) := by rw [if_neg (show ¬ (false = true) by decide)] at H; exact H
   clear H
   have H := H1
   clear H1
   have H' := zp.mk H
   clear H
   have hnb16 := NB211_212.out
   have hnc16 := NB212_211.out
   have y17_0 := zt0 BK211.out
   have y17_1 := zt1 BK211.out
   have u17_0 := zd BK211.out 0
   have u17_1 := zd BK211.out 1
   go_wp2_with (first | ((with_reducible refine zn (f := 53) rfl ?_); refine goesL_ (some 12) rfl rfl Try.func53 (by kernel_rfl) rfl #[.agg #[.int .i64 a0_0, .slice A0_1 l0_1.length c0_1], .slice A1 l1.length c1] rfl (by (try simp only [List.map_toArray, List.map_cons, List.map_nil]); first | done | rfl | (simp only [List.length_drop, List.length_take]; rfl)) ?_; (with_reducible refine (spec_PolicyOk.calls k a0_0 _ _ l0_1 _ _ l1 false _ ?side1 ?side2 ?side3 ?side4 A7.out).mono ?_); (case side1 => repeat (first | exact (Kd.zt HR0_1.out HB.out) | (with_reducible refine Kd.zr ?_ _) | (with_reducible refine Kd.zq ?_ _) | (with_reducible refine Kd.C_drew ?_))); (case side2 => exact HC0_1.out); (case side3 => repeat (first | exact (Kd.zt HR1.out HB.out) | (with_reducible refine Kd.zr ?_ _) | (with_reducible refine Kd.zq ?_ _) | (with_reducible refine Kd.C_drew ?_))); (case side4 => exact HC1.out); rintro e w18 ⟨rfl, hb⟩; refine ⟨_, rfl, ?_⟩; replace BK211 := zp.mk (zl (zv8 BK211.out) hb); replace BK212 := zp.mk (zl (zv8 BK212.out) hb); replace HB := zp.mk (zj (zv7 HB.out) hb); (try clear hb); (try clear hb2); (try clear hk); (try clear hi)))
   go_meet
   case rel => exact ⟨_, (true), (by first | rfl | (simp; done) | (simp [*]; done)), H', ⟨by first | omega | exact Nat.le_refl _⟩, ⟨zv8 BK211.out⟩, ⟨zv8 BK212.out⟩, ⟨zv7 HB.out⟩⟩
 case rest =>
  clear HC4
  try clear c1
  try clear p2
  try clear c5
  try clear c6
  try clear c8
  try clear c10
  try clear c16
  try clear y11_0
  try clear y11_1
  try clear y13_0
  try clear y13_1
  try clear y14_0
  try clear y14_1
  try clear y14_2
  try clear y14_3
  try clear y17_0
  try clear y17_1
  try clear u11_0
  try clear u11_1
  try clear u13_0
  try clear u13_1
  try clear u14_0
  try clear u14_1
  try clear u14_2
  try clear u14_3
  try clear u17_0
  try clear u17_1
  obtain ⟨kq, x19_3, rfl, HA, HJ3, BK211, BK212, HB⟩ := hcut
  cases kq with
  | zero => exact absurd HA.out (by simp [spec_PolicySet.j0])
  | succ kj3 =>
   have H := HA.out
   clear HA
   simp only [spec_PolicySet.j0] at H
   by_cases c19 : x19_3 = true
   ·subst c19
    have H1 : (some (([] : List (S58)), false)) = some (r1, r2) := by rw [if_pos rfl] at H; exact H
    clear H
    have H := H1
    clear H1
    simp only [Option.some.injEq, Prod.mk.injEq] at H
    obtain ⟨rfl, rfl⟩ := H
    go_wp2
    go_ret2
    exact ⟨_, by first | rfl | (simp [errW_none, errW_some] <;> rfl) | (simp [*, errW_none, errW_some] <;> rfl), by first | exact Kd.R_nil _ _ _ _ _ | exact Kd.N_nil _ _ _ _ _ | exact Kd.V_nil _ _ _ _ _ | exact Kd.Q_nil _ _ _ _ _ | exact Kd.S_nil _ _ _ _ _, zv7 HB.out⟩
   ·replace c19 := Bool.eq_false_iff.mpr c19
    subst c19
    have H1 : ((spec_l04Without.f kj3 l1 a2_0 a2_1 a2_2 a2_3).bind fun t215 => (if (t215.length : Int) = 12 then (some (([] : List (S58)), false)) else (spec_PolicySet.l0 kj3 t215 0 a2_0 a2_1 a2_2 a2_3))) = some (r1, r2) := by rw [if_neg (show ¬ (false = true) by decide)] at H; exact H
    clear H
    have H := H1
    clear H1
    replace H := zs4 H
    obtain ⟨t215, A200, H⟩ := H
    replace H : (if (t215.length : Int) = 12 then (some (([] : List (S58)), false)) else (spec_PolicySet.l0 kj3 t215 0 a2_0 a2_1 a2_2 a2_3)) = some (r1, r2) := H
    have A20 := zp.mk A200
    clear A200
    by_cases c21 : (t215.length : Int) = 12
    ·rw [if_pos c21] at H
     have c21b0 : ((t215.length : Int) == 12) = true := beq_iff_eq.mpr c21
     have c21b1 : ((t215.length : Int) != 12) = false := bne_eq_false_iff_eq.mpr c21
     clear c21
     simp only [Option.some.injEq, Prod.mk.injEq] at H
     obtain ⟨rfl, rfl⟩ := H
     have hnb22 := NB212_211.out
     have hnc22 := NB211_212.out
     have y23_0 := zt0 BK212.out
     have y23_1 := zt1 BK212.out
     have y23_2 := zt2 BK212.out
     have y23_3 := zt3 BK212.out
     have u23_0 := zd BK212.out 0
     have u23_1 := zd BK212.out 1
     have u23_2 := zd BK212.out 2
     have u23_3 := zd BK212.out 3
     go_wp2_with (first | ((with_reducible refine zn (f := 97) rfl ?_); refine goesL_ (some 22) rfl rfl Try.func97 (by kernel_rfl) rfl #[.slice A1 l1.length c1, .agg #[.int .i64 a2_0, .int .i64 a2_1, .int .i64 a2_2, .int .i64 a2_3]] rfl (by (try simp only [List.map_toArray, List.map_cons, List.map_nil]); first | done | rfl | (simp only [List.length_drop, List.length_take]; rfl)) ?_; (with_reducible refine (spec_l04Without.calls kj3 _ _ l1 a2_0 a2_1 a2_2 a2_3 t215 _ ?side1 ?side2 A20.out).mono ?_); (case side1 => repeat (first | exact (Kd.zt HR1.out HB.out) | (with_reducible refine Kd.zr ?_ _) | (with_reducible refine Kd.zq ?_ _) | (with_reducible refine Kd.C_drew ?_))); (case side2 => exact HC1.out); rintro e w24 ⟨v216, rfl, ho0, hb⟩; refine ⟨_, rfl, ?_⟩; have HO217 := zp.mk (Kd.R_lower (Kd.R_newB ho0 (g := gb212) (o := .cells #[.int .i64 a2_0, .int .i64 a2_1, .int .i64 a2_2, .int .i64 a2_3] 58 (0, 0)) (zv8 BK212.out)) (zk (zv7 HB.out))); replace BK211 := zp.mk (zl (zv8 BK211.out) hb); replace BK212 := zp.mk (zl (zv8 BK212.out) hb); replace HB := zp.mk (zj (zv7 HB.out) hb); (try clear hb); (try clear hb2); (try clear hk); (try clear hi); (try clear ho0); obtain ⟨Ao25, co25, eo25⟩ := Kd.R_slice HO217.out; subst eo25))
     go_ret2
     exact ⟨_, by first | rfl | (simp [errW_none, errW_some] <;> rfl) | (simp [*, errW_none, errW_some] <;> rfl), by first | exact Kd.R_nil _ _ _ _ _ | exact Kd.N_nil _ _ _ _ _ | exact Kd.V_nil _ _ _ _ _ | exact Kd.Q_nil _ _ _ _ _ | exact Kd.S_nil _ _ _ _ _, zv7 HB.out⟩
    ·rw [if_neg c21] at H
     have c21b0 : ((t215.length : Int) == 12) = false := beq_eq_false_iff_ne.mpr c21
     have c21b1 : ((t215.length : Int) != 12) = true := bne_iff_ne.mpr c21
     have H' := zp.mk H
     clear H
     have hnb26 := NB212_211.out
     have hnc26 := NB211_212.out
     have y27_0 := zt0 BK212.out
     have y27_1 := zt1 BK212.out
     have y27_2 := zt2 BK212.out
     have y27_3 := zt3 BK212.out
     have u27_0 := zd BK212.out 0
     have u27_1 := zd BK212.out 1
     have u27_2 := zd BK212.out 2
     have u27_3 := zd BK212.out 3
     go_wp2_with (first | ((with_reducible refine zn (f := 97) rfl ?_); refine goesL_ (some 22) rfl rfl Try.func97 (by kernel_rfl) rfl #[.slice A1 l1.length c1, .agg #[.int .i64 a2_0, .int .i64 a2_1, .int .i64 a2_2, .int .i64 a2_3]] rfl (by (try simp only [List.map_toArray, List.map_cons, List.map_nil]); first | done | rfl | (simp only [List.length_drop, List.length_take]; rfl)) ?_; (with_reducible refine (spec_l04Without.calls kj3 _ _ l1 a2_0 a2_1 a2_2 a2_3 t215 _ ?side1 ?side2 A20.out).mono ?_); (case side1 => repeat (first | exact (Kd.zt HR1.out HB.out) | (with_reducible refine Kd.zr ?_ _) | (with_reducible refine Kd.zq ?_ _) | (with_reducible refine Kd.C_drew ?_))); (case side2 => exact HC1.out); rintro e w28 ⟨v216, rfl, ho0, hb⟩; refine ⟨_, rfl, ?_⟩; have HO217 := zp.mk (Kd.R_lower (Kd.R_newB ho0 (g := gb212) (o := .cells #[.int .i64 a2_0, .int .i64 a2_1, .int .i64 a2_2, .int .i64 a2_3] 58 (0, 0)) (zv8 BK212.out)) (zk (zv7 HB.out))); replace BK211 := zp.mk (zl (zv8 BK211.out) hb); replace BK212 := zp.mk (zl (zv8 BK212.out) hb); replace HB := zp.mk (zj (zv7 HB.out) hb); (try clear hb); (try clear hb2); (try clear hk); (try clear hi); (try clear ho0); obtain ⟨Ao29, co29, eo29⟩ := Kd.R_slice HO217.out; subst eo29))
     go_loopg [9] kj3 (fun kq v9 w' => ∃ (x9_2 : Int), v9 = .int .i64 x9_2 ∧ zp (spec_PolicySet.l0 kq t215 x9_2 a2_0 a2_1 a2_2 a2_3 = some (r1, r2)) ∧ zp (kq ≤ kj3) ∧ zp (Kd.R k58 58 w' w.heap.size (fun k_ => k_ ≠ gb212) (.slice Ao29 t215.length co29) t215) ∧ zp (w'.heap[gb211]? = some (.cells #[.int .i64 a0_0, (.slice A0_1 l0_1.length c0_1)] 27 (0, 0))) ∧ zp (w'.heap[gb212]? = some (.cells #[.int .i64 a2_0, .int .i64 a2_1, .int .i64 a2_2, .int .i64 a2_3] 58 (0, 0))) ∧ zp (Below w.heap.size w w'))
     case atStart => exact ⟨(0), (by first | rfl | (simp; done) | (simp [*]; done)), H', ⟨Nat.le_refl _⟩, ⟨by (with_reducible repeat (first | apply Kd.R_alloc | apply Kd.R_drewN | apply Kd.R_drew)); exact Kd.R_mono HO217.out (fun _ hk => hk.2)⟩, ⟨zv8 BK211.out⟩, ⟨zv8 BK212.out⟩, ⟨zv7 HB.out⟩⟩
     case round =>
      clear H'
      try clear c1
      try clear c2
      try clear p2
      try clear c5
      try clear c6
      try clear c8
      try clear c9
      try clear c10
      try clear c16
      try clear c19
      try clear c21
      try clear c21b0
      try clear c21b1
      try clear c22
      try clear c26
      try clear y11_0
      try clear y11_1
      try clear y13_0
      try clear y13_1
      try clear y14_0
      try clear y14_1
      try clear y14_2
      try clear y14_3
      try clear y17_0
      try clear y17_1
      try clear y23_0
      try clear y23_1
      try clear y23_2
      try clear y23_3
      try clear y27_0
      try clear y27_1
      try clear y27_2
      try clear y27_3
      try clear u11_0
      try clear u11_1
      try clear u13_0
      try clear u13_1
      try clear u14_0
      try clear u14_1
      try clear u14_2
      try clear u14_3
      try clear u17_0
      try clear u17_1
      try clear u23_0
      try clear u23_1
      try clear u23_2
      try clear u23_3
      try clear u27_0
      try clear u27_1
      try clear u27_2
      try clear u27_3
      try clear p2
      obtain ⟨x9_2, rfl, HA, HK2, HO_8, BK211, BK212, HB⟩ := hrel
      cases gk with
      | zero => exact absurd HA.out (by simp [spec_PolicySet.l0])
      | succ k2 =>
       have H := HA.out
       clear HA
       simp only [spec_PolicySet.l0] at H
       by_cases c30 : x9_2 < (t215.length : Int)
       ·rw [if_pos c30] at H
        have c30b0 : decide (x9_2 < (t215.length : Int)) = true := decide_eq_true c30
        clear c30
        by_cases c31 : 0 ≤ x9_2
        ·rw [if_pos c31] at H
         have c31b0 : decide (0 ≤ x9_2) = true := decide_eq_true c31
         clear c31
         replace H := zs4 H
         obtain ⟨t219, A320, H⟩ := H
         replace H : (if t219 = true then (spec_PolicySet.l0 k2 t215 (wrap64 (x9_2 + 1)) a2_0 a2_1 a2_2 a2_3) else ((some (([] : List (S58)) : List (S58))).bind fun y220 => (if x9_2 ≤ (t215.length : Int) then ((some (t215.take (x9_2 : Int).toNat : List (S58))).bind fun y223 => (if y220.length + y223.length < 4398046511104 then ((some (y220 ++ y223 : List (S58))).bind fun y227 => ((some (([(⟨a2_0, a2_1, a2_2, a2_3⟩ : S58)] : List (S58)) : List (S58))).bind fun y230 => (if y227.length + y230.length < 4398046511104 then (spec_PolicySet.t (y227 ++ y230) (t215.drop (x9_2 : Int).toNat)) else (none)))) else (none))) else (none)))) = some (r1, r2) := H
         have A32 := zp.mk A320
         clear A320
         by_cases c33 : t219 = true
         ·subst c33
          have H1 : (spec_PolicySet.l0 k2 t215 (wrap64 (x9_2 + 1)) a2_0 a2_1 a2_2 a2_3) = some (r1, r2) := by rw [if_pos rfl] at H; exact H
          clear H
          have H := H1
          clear H1
          have H' := zp.mk H
          clear H
          try go_wp2
          replace HO_8 := zp.mk (Kd.R_drew HO_8.out)
          replace BK211 := zp.mk (zi BK211.out)
          replace BK212 := zp.mk (zi BK212.out)
          replace HB := zp.mk (zb HB.out)
          have p218 : 0 ≤ (x9_2 : Int) := of_decide_eq_true (by first | (with_reducible assumption) | assumption)
          have q218 : x9_2 < (t215.length : Int) := of_decide_eq_true (by first | (with_reducible assumption) | assumption)
          obtain ⟨ad218, e218, hx218_0, hx218_1, hx218_2, hx218_3⟩ := at_T58 (Kd.R_reads' HO_8.out).2.2 x9_2 p218 q218
          cases e218
          replace p218 := eq_true p218
          replace q218 := eq_true q218
          refine start_ (n := 12) (S := fun w' => w'.cell? ⟨gb212, 0, none⟩ = some (.int .i64 a2_0) ∧ w'.cell? ⟨gb212, 1, none⟩ = some (.int .i64 a2_1) ∧ w'.cell? ⟨gb212, 2, none⟩ = some (.int .i64 a2_2) ∧ w'.cell? ⟨gb212, 3, none⟩ = some (.int .i64 a2_3) ∧ w'.cell? (ad218.add ((x9_2).toNat * 4)) = some (.int .i64 ((rd_T58 t215 x9_2).f0)) ∧ w'.cell? ⟨(ad218.add ((x9_2).toNat * 4)).block, (ad218.add ((x9_2).toNat * 4)).off + 1, none⟩ = some (.int .i64 ((rd_T58 t215 x9_2).f1)) ∧ w'.cell? ⟨(ad218.add ((x9_2).toNat * 4)).block, (ad218.add ((x9_2).toNat * 4)).off + 2, none⟩ = some (.int .i64 ((rd_T58 t215 x9_2).f2)) ∧ w'.cell? ⟨(ad218.add ((x9_2).toNat * 4)).block, (ad218.add ((x9_2).toNat * 4)).off + 3, none⟩ = some (.int .i64 ((rd_T58 t215 x9_2).f3))) (ds := []) (zB 12 0) (by kernel_rfl) rfl rfl ⟨(ze BK212.out 0).trans rfl, (ze BK212.out 1).trans rfl, (ze BK212.out 2).trans rfl, (ze BK212.out 3).trans rfl, hx218_0, hx218_1, hx218_2, hx218_3⟩ (fun hHeld => ?_); refine with_tabW spec_PolicySet.tab7 spec_PolicySet.bits7 (fun HT_ HW_ => ?_)
          generalize wr.drew = w34 at HO_8 BK211 BK212 HB hx218_0 hx218_1 hx218_2 hx218_3 hHeld ⊢
          refine pure_ (i := 0) (N := some 26) (v := ?_) (a' := ?_) (zB 12 1) rfl rfl (any_of HT_.out (by kernel_rfl)) (fun _ _ _ h => h) (Or.inl ⟨by rfl, ?_⟩) ?_ ?_
          rotate_left
          ·intro w'
           go_simp
           with_reducible rfl
          rotate_left
          ·simp only [Act.put, zs1, zs2, zs3, i64_w, i32_w]
           rfl
          refine pure_ (i := 1) (N := some 27) (v := ?_) (a' := ?_) (zB 12 3) rfl rfl (any_of HT_.out (by kernel_rfl)) (fun _ _ _ h => h) (Or.inl ⟨by rfl, ?_⟩) ?_ ?_
          rotate_left
          ·intro w'
           go_simp
           with_reducible rfl
          rotate_left
          ·simp only [Act.put, zs1, zs2, zs3, i64_w, i32_w]
           rfl
          refine pure_ (i := 2) (N := some 28) (v := ?_) (a' := ?_) (zB 12 7) rfl rfl (any_of HT_.out (by kernel_rfl)) (fun _ _ _ h => h) (Or.inl ⟨by rfl, ?_⟩) ?_ ?_
          rotate_left
          ·intro w'
           go_simp
           with_reducible rfl
          rotate_left
          ·simp only [Act.put, zs1, zs2, zs3, i64_w, i32_w]
           rfl
          refine pure_ (i := 3) (N := some 29) (v := ?_) (a' := ?_) (zB 12 15) rfl rfl (any_of HT_.out (by kernel_rfl)) (fun _ _ _ h => h) (Or.inl ⟨by rfl, ?_⟩) ?_ ?_
          rotate_left
          ·intro w'
           go_simp
           with_reducible rfl
          rotate_left
          ·simp only [Act.put, zs1, zs2, zs3, i64_w, i32_w]
           rfl
          refine pure_ (i := 4) (N := some 30) (v := ?_) (a' := ?_) (zB 12 31) rfl rfl (any_of HT_.out (by kernel_rfl)) (fun _ _ _ h => h) (Or.inl ⟨by rfl, ?_⟩) ?_ ?_
          rotate_left
          ·intro w'
           go_simp
           with_reducible rfl
          rotate_left
          ·simp only [Act.put, zs1, zs2, zs3, i64_w, i32_w]
           rfl
          refine pure_ (i := 5) (N := some 31) (v := ?_) (a' := ?_) (zB 12 63) rfl rfl (any_of HT_.out (by kernel_rfl)) (fun _ _ _ h => h) (Or.inl ⟨by rfl, ?_⟩) ?_ ?_
          rotate_left
          ·intro w'
           go_simp
           with_reducible rfl
          rotate_left
          ·simp only [Act.put, zs1, zs2, zs3, i64_w, i32_w]
           rfl
          refine pure_ (i := 6) (N := some 32) (v := ?_) (a' := ?_) (zB 12 127) rfl rfl (any_of HT_.out (by kernel_rfl)) (fun _ _ _ h => h) (Or.inl ⟨by rfl, ?_⟩) ?_ ?_
          rotate_left
          ·intro w'
           go_simp
           with_reducible rfl
          rotate_left
          ·simp only [Act.put, zs1, zs2, zs3, i64_w, i32_w]
           rfl
          refine pure_ (i := 7) (N := some 33) (v := ?_) (a' := ?_) (zB 12 255) rfl rfl (any_of HT_.out (by kernel_rfl)) (fun _ _ _ h => h) (Or.inl ⟨by rfl, ?_⟩) ?_ ?_
          rotate_left
          ·intro w'
           go_simp
           with_reducible rfl
          rotate_left
          ·simp only [Act.put, zs1, zs2, zs3, i64_w, i32_w]
           rfl
          refine take_ (i := 8) (N := some 34) (v := ?_) (a' := ?_) (zB 12 511) rfl rfl (take_ofW HT_.out HW_.out (by kernel_rfl)) (fun _ _ _ h => h) (Or.inl ⟨by rfl, ?_⟩) hHeld ?_ ?_
          rotate_left
          ·rintro w' ⟨s0, s1, s2, s3, s4, s5, s6, s7⟩
           go_simp
           with_reducible rfl
          rotate_left
          ·simp only [Act.put, zs1, zs2, zs3, i64_w, i32_w]
           rfl
          refine take_ (i := 9) (N := some 35) (v := ?_) (a' := ?_) (zB 12 1023) rfl rfl (take_ofW HT_.out HW_.out (by kernel_rfl)) (fun _ _ _ h => h) (Or.inl ⟨by rfl, ?_⟩) hHeld ?_ ?_
          rotate_left
          ·rintro w' ⟨s0, s1, s2, s3, s4, s5, s6, s7⟩
           go_simp
           with_reducible rfl
          rotate_left
          ·simp only [Act.put, zs1, zs2, zs3, i64_w, i32_w]
           rfl
          refine one_ (i := 10) (N := some 36) (zB 12 2047) rfl rfl (one_of HT_.out (by kernel_rfl)) (by decide) (fun K hK => ?_)
          refine goes_ Try.func88 (by kernel_rfl) rfl #[.agg #[.int .i64 ((rd_T58 t215 x9_2).f0), .int .i64 ((rd_T58 t215 x9_2).f1), .int .i64 ((rd_T58 t215 x9_2).f2), .int .i64 ((rd_T58 t215 x9_2).f3)], .agg #[.int .i64 a2_0, .int .i64 a2_1, .int .i64 a2_2, .int .i64 a2_3]] (by rfl) rfl rfl (by (try simp only [List.map_toArray, List.map_cons, List.map_nil]); first | done | rfl | (simp only [List.length_drop, List.length_take]; rfl)) ?_
          with_reducible refine (spec_l04Less.calls ((rd_T58 t215 x9_2).f0) ((rd_T58 t215 x9_2).f1) ((rd_T58 t215 x9_2).f2) ((rd_T58 t215 x9_2).f3) a2_0 a2_1 a2_2 a2_3 true _ A32.out).mono ?_
          rintro e w35 ⟨rfl, hb⟩
          have HS4_ := (hb.cell (World.block_lt_of_cell? _ _ (hHeld.2.2.2.2.1))).trans (hHeld.2.2.2.2.1)
          have HS5_ := (hb.cell (World.block_lt_of_cell? _ _ (hHeld.2.2.2.2.2.1))).trans (hHeld.2.2.2.2.2.1)
          have HS6_ := (hb.cell (World.block_lt_of_cell? _ _ (hHeld.2.2.2.2.2.2.1))).trans (hHeld.2.2.2.2.2.2.1)
          have HS7_ := (hb.cell (World.block_lt_of_cell? _ _ (hHeld.2.2.2.2.2.2.2))).trans (hHeld.2.2.2.2.2.2.2)
          refine ⟨_, rfl, ?_⟩
          replace HO_8 := zp.mk (Kd.R_below (by (with_reducible repeat (first | apply Kd.R_alloc | apply Kd.R_drewN | apply Kd.R_drew)); exact HO_8.out) hb)
          replace BK211 := zp.mk (zl (zv8 BK211.out) hb)
          replace BK212 := zp.mk (zl (zv8 BK212.out) hb)
          replace HB := zp.mk (zj (zv7 HB.out) hb)
          (try clear hb)
          (try clear hb2)
          (try clear hk)
          (try clear hi)
          refine hK.out _ _ ⟨(ze BK212.out 0).trans rfl, (ze BK212.out 1).trans rfl, (ze BK212.out 2).trans rfl, (ze BK212.out 3).trans rfl, HS4_, HS5_, HS6_, HS7_⟩ (fun hHeld => ?_)
          clear hK K
          refine norm_ (a' := ?_) ?_ ?_
          rotate_left
          ·show Act.put _ (some 36) _ = _
           simp only [Act.put, zs1, zs2, zs3, i64_w, i32_w]
           rfl
          refine pure_ (i := 11) (N := some 37) (v := ?_) (a' := ?_) (zB 12 4095) rfl rfl (any_of HT_.out (by kernel_rfl)) (fun _ _ _ h => h) (Or.inl ⟨by rfl, ?_⟩) ?_ ?_
          rotate_left
          ·intro w'
           go_simp
           with_reducible rfl
          rotate_left
          ·simp only [Act.put, zs1, zs2, zs3, i64_w, i32_w]
           rfl
          refine done_ (done_of HT_.out (by kernel_rfl)) ?_
          try go_wp2
          go_roundg k2
          case measure => have := HJ3.out; have := HK2.out; omega
          case rel => exact ⟨(wrap64 (x9_2 + 1)), (by first | rfl | (simp; done) | (simp [*]; done)), H', ⟨by have := HJ3.out; have := HK2.out; omega⟩, ⟨by (with_reducible repeat (first | apply Kd.R_alloc | apply Kd.R_drewN | apply Kd.R_drew)); exact HO_8.out⟩, ⟨zv8 BK211.out⟩, ⟨zv8 BK212.out⟩, ⟨zv7 HB.out⟩⟩
         ·replace c33 := Bool.eq_false_iff.mpr c33
          subst c33
          have H1 : ((some (([] : List (S58)) : List (S58))).bind fun y220 => (if x9_2 ≤ (t215.length : Int) then ((some (t215.take (x9_2 : Int).toNat : List (S58))).bind fun y223 => (if y220.length + y223.length < 4398046511104 then ((some (y220 ++ y223 : List (S58))).bind fun y227 => ((some (([(⟨a2_0, a2_1, a2_2, a2_3⟩ : S58)] : List (S58)) : List (S58))).bind fun y230 => (if y227.length + y230.length < 4398046511104 then (spec_PolicySet.t (y227 ++ y230) (t215.drop (x9_2 : Int).toNat)) else (none)))) else (none))) else (none))) = some (r1, r2) := by rw [if_neg (show ¬ (false = true) by decide)] at H; exact H
          clear H
          have H := H1
          clear H1
          obtain ⟨y220, hy220⟩ : ∃ y_ : List (S58), y_ = (([] : List (S58))) := ⟨_, rfl⟩
          replace H : (if x9_2 ≤ (t215.length : Int) then ((some (t215.take (x9_2 : Int).toNat : List (S58))).bind fun y223 => (if y220.length + y223.length < 4398046511104 then ((some (y220 ++ y223 : List (S58))).bind fun y227 => ((some (([(⟨a2_0, a2_1, a2_2, a2_3⟩ : S58)] : List (S58)) : List (S58))).bind fun y230 => (if y227.length + y230.length < 4398046511104 then (spec_PolicySet.t (y227 ++ y230) (t215.drop (x9_2 : Int).toNat)) else (none)))) else (none))) else (none)) = some (r1, r2) := by first | (rw [hy220]; with_reducible exact H) | (have H2_ := (Option.bind_some _ _).symm.trans H; rw [hy220]; with_reducible exact H2_) | (have H2_ := (Option.bind_some _ _).symm.trans H; with_reducible exact H2_) | with_reducible exact H | (rw [hy220]; exact H) | exact H
          have Ny220 := zp.mk hy220
          clear hy220
          have c36b0 := eq_true (of_decide_eq_true (by first | (with_reducible assumption) | assumption) : 0 ≤ x9_2)
          by_cases c37 : x9_2 ≤ (t215.length : Int)
          ·rw [if_pos c37] at H
           have c37b0 := eq_true c37
           have c37b1 : decide (x9_2 ≤ (t215.length : Int)) = true := decide_eq_true c37
           clear c37
           obtain ⟨y223, hy223⟩ : ∃ y_ : List (S58), y_ = (t215.take (x9_2 : Int).toNat) := ⟨_, rfl⟩
           replace H : (if y220.length + y223.length < 4398046511104 then ((some (y220 ++ y223 : List (S58))).bind fun y227 => ((some (([(⟨a2_0, a2_1, a2_2, a2_3⟩ : S58)] : List (S58)) : List (S58))).bind fun y230 => (if y227.length + y230.length < 4398046511104 then (spec_PolicySet.t (y227 ++ y230) (t215.drop (x9_2 : Int).toNat)) else (none)))) else (none)) = some (r1, r2) := by first | (rw [hy223]; with_reducible exact H) | (have H2_ := (Option.bind_some _ _).symm.trans H; rw [hy223]; with_reducible exact H2_) | (have H2_ := (Option.bind_some _ _).symm.trans H; with_reducible exact H2_) | with_reducible exact H | (rw [hy223]; exact H) | exact H
           have Ny223 := zp.mk hy223
           clear hy223
           by_cases c38 : y220.length + y223.length < 4398046511104
           ·rw [if_pos c38] at H
            have LMc38 := zp.mk c38
            clear c38
            obtain ⟨y227, hy227⟩ : ∃ y_ : List (S58), y_ = (y220 ++ y223) := ⟨_, rfl⟩
            replace H : ((some (([(⟨a2_0, a2_1, a2_2, a2_3⟩ : S58)] : List (S58)) : List (S58))).bind fun y230 => (if y227.length + y230.length < 4398046511104 then (spec_PolicySet.t (y227 ++ y230) (t215.drop (x9_2 : Int).toNat)) else (none))) = some (r1, r2) := by first | (rw [hy227]; with_reducible exact H) | (have H2_ := (Option.bind_some _ _).symm.trans H; rw [hy227]; with_reducible exact H2_) | (have H2_ := (Option.bind_some _ _).symm.trans H; with_reducible exact H2_) | with_reducible exact H | (rw [hy227]; exact H) | exact H
            have Ny227 := zp.mk hy227
            clear hy227
            obtain ⟨y230, hy230⟩ : ∃ y_ : List (S58), y_ = (([(⟨a2_0, a2_1, a2_2, a2_3⟩ : S58)] : List (S58))) := ⟨_, rfl⟩
            replace H : (if y227.length + y230.length < 4398046511104 then (spec_PolicySet.t (y227 ++ y230) (t215.drop (x9_2 : Int).toNat)) else (none)) = some (r1, r2) := by first | (rw [hy230]; with_reducible exact H) | (have H2_ := (Option.bind_some _ _).symm.trans H; rw [hy230]; with_reducible exact H2_) | (have H2_ := (Option.bind_some _ _).symm.trans H; with_reducible exact H2_) | with_reducible exact H | (rw [hy230]; exact H) | exact H
            have Ny230 := zp.mk hy230
            clear hy230
            by_cases c39 : y227.length + y230.length < 4398046511104
            ·rw [if_pos c39] at H
             have LMc39 := zp.mk c39
             clear c39
             obtain ⟨y233, hy233⟩ : ∃ y_ : List (S58), y_ = (y227 ++ y230) := ⟨_, rfl⟩
             replace H : spec_PolicySet.t y233 (t215.drop (x9_2 : Int).toNat) = some (r1, r2) := by first | (rw [hy233]; with_reducible exact H) | (have H2_ := (Option.bind_some _ _).symm.trans H; rw [hy233]; with_reducible exact H2_) | (have H2_ := (Option.bind_some _ _).symm.trans H; with_reducible exact H2_) | with_reducible exact H | (rw [hy233]; exact H) | exact H
             have Ny233 := zp.mk hy233
             clear hy233
             have c40b0 := eq_true (of_decide_eq_true (by first | (with_reducible assumption) | assumption) : 0 ≤ x9_2)
             have c41b0 := eq_true (of_decide_eq_true (by first | (with_reducible assumption) | assumption) : x9_2 ≤ (t215.length : Int))
             obtain ⟨y236, hy236⟩ : ∃ y_ : List (S58), y_ = (t215.drop (x9_2 : Int).toNat) := ⟨_, rfl⟩
             replace H : spec_PolicySet.t y233 y236 = some (r1, r2) := by first | (rw [hy236]; with_reducible exact H) | (have H2_ := (Option.bind_some _ _).symm.trans H; rw [hy236]; with_reducible exact H2_) | (have H2_ := (Option.bind_some _ _).symm.trans H; with_reducible exact H2_) | with_reducible exact H | (rw [hy236]; exact H) | exact H
             have Ny236 := zp.mk hy236
             clear hy236
             obtain ⟨hl_, rfl, rfl⟩ := spec_PolicySet.t_some H
             have LMt_ := zp.mk hl_
             clear hl_
             try go_wp2
             replace HO_8 := zp.mk (Kd.R_drew HO_8.out)
             replace BK211 := zp.mk (zi BK211.out)
             replace BK212 := zp.mk (zi BK212.out)
             replace HB := zp.mk (zb HB.out)
             have p218 : 0 ≤ (x9_2 : Int) := of_decide_eq_true (by first | (with_reducible assumption) | assumption)
             have q218 : x9_2 < (t215.length : Int) := of_decide_eq_true (by first | (with_reducible assumption) | assumption)
             obtain ⟨ad218, e218, hx218_0, hx218_1, hx218_2, hx218_3⟩ := at_T58 (Kd.R_reads' HO_8.out).2.2 x9_2 p218 q218
             cases e218
             replace p218 := eq_true p218
             replace q218 := eq_true q218
             refine start_ (n := 12) (S := fun w' => w'.cell? ⟨gb212, 0, none⟩ = some (.int .i64 a2_0) ∧ w'.cell? ⟨gb212, 1, none⟩ = some (.int .i64 a2_1) ∧ w'.cell? ⟨gb212, 2, none⟩ = some (.int .i64 a2_2) ∧ w'.cell? ⟨gb212, 3, none⟩ = some (.int .i64 a2_3) ∧ w'.cell? (ad218.add ((x9_2).toNat * 4)) = some (.int .i64 ((rd_T58 t215 x9_2).f0)) ∧ w'.cell? ⟨(ad218.add ((x9_2).toNat * 4)).block, (ad218.add ((x9_2).toNat * 4)).off + 1, none⟩ = some (.int .i64 ((rd_T58 t215 x9_2).f1)) ∧ w'.cell? ⟨(ad218.add ((x9_2).toNat * 4)).block, (ad218.add ((x9_2).toNat * 4)).off + 2, none⟩ = some (.int .i64 ((rd_T58 t215 x9_2).f2)) ∧ w'.cell? ⟨(ad218.add ((x9_2).toNat * 4)).block, (ad218.add ((x9_2).toNat * 4)).off + 3, none⟩ = some (.int .i64 ((rd_T58 t215 x9_2).f3))) (ds := []) (zB 12 0) (by kernel_rfl) rfl rfl ⟨(ze BK212.out 0).trans rfl, (ze BK212.out 1).trans rfl, (ze BK212.out 2).trans rfl, (ze BK212.out 3).trans rfl, hx218_0, hx218_1, hx218_2, hx218_3⟩ (fun hHeld => ?_); refine with_tabW spec_PolicySet.tab7 spec_PolicySet.bits7 (fun HT_ HW_ => ?_)
             generalize wr.drew = w42 at HO_8 BK211 BK212 HB hx218_0 hx218_1 hx218_2 hx218_3 hHeld ⊢
             refine pure_ (i := 0) (N := some 26) (v := ?_) (a' := ?_) (zB 12 1) rfl rfl (any_of HT_.out (by kernel_rfl)) (fun _ _ _ h => h) (Or.inl ⟨by rfl, ?_⟩) ?_ ?_
             rotate_left
             ·intro w'
              go_simp
              with_reducible rfl
             rotate_left
             ·simp only [Act.put, zs1, zs2, zs3, i64_w, i32_w]
              rfl
             refine pure_ (i := 1) (N := some 27) (v := ?_) (a' := ?_) (zB 12 3) rfl rfl (any_of HT_.out (by kernel_rfl)) (fun _ _ _ h => h) (Or.inl ⟨by rfl, ?_⟩) ?_ ?_
             rotate_left
             ·intro w'
              go_simp
              with_reducible rfl
             rotate_left
             ·simp only [Act.put, zs1, zs2, zs3, i64_w, i32_w]
              rfl
             refine pure_ (i := 2) (N := some 28) (v := ?_) (a' := ?_) (zB 12 7) rfl rfl (any_of HT_.out (by kernel_rfl)) (fun _ _ _ h => h) (Or.inl ⟨by rfl, ?_⟩) ?_ ?_
             rotate_left
             ·intro w'
              go_simp
              with_reducible rfl
             rotate_left
             ·simp only [Act.put, zs1, zs2, zs3, i64_w, i32_w]
              rfl
             refine pure_ (i := 3) (N := some 29) (v := ?_) (a' := ?_) (zB 12 15) rfl rfl (any_of HT_.out (by kernel_rfl)) (fun _ _ _ h => h) (Or.inl ⟨by rfl, ?_⟩) ?_ ?_
             rotate_left
             ·intro w'
              go_simp
              with_reducible rfl
             rotate_left
             ·simp only [Act.put, zs1, zs2, zs3, i64_w, i32_w]
              rfl
             refine pure_ (i := 4) (N := some 30) (v := ?_) (a' := ?_) (zB 12 31) rfl rfl (any_of HT_.out (by kernel_rfl)) (fun _ _ _ h => h) (Or.inl ⟨by rfl, ?_⟩) ?_ ?_
             rotate_left
             ·intro w'
              go_simp
              with_reducible rfl
             rotate_left
             ·simp only [Act.put, zs1, zs2, zs3, i64_w, i32_w]
              rfl
             refine pure_ (i := 5) (N := some 31) (v := ?_) (a' := ?_) (zB 12 63) rfl rfl (any_of HT_.out (by kernel_rfl)) (fun _ _ _ h => h) (Or.inl ⟨by rfl, ?_⟩) ?_ ?_
             rotate_left
             ·intro w'
              go_simp
              with_reducible rfl
             rotate_left
             ·simp only [Act.put, zs1, zs2, zs3, i64_w, i32_w]
              rfl
             refine pure_ (i := 6) (N := some 32) (v := ?_) (a' := ?_) (zB 12 127) rfl rfl (any_of HT_.out (by kernel_rfl)) (fun _ _ _ h => h) (Or.inl ⟨by rfl, ?_⟩) ?_ ?_
             rotate_left
             ·intro w'
              go_simp
              with_reducible rfl
             rotate_left
             ·simp only [Act.put, zs1, zs2, zs3, i64_w, i32_w]
              rfl
             refine pure_ (i := 7) (N := some 33) (v := ?_) (a' := ?_) (zB 12 255) rfl rfl (any_of HT_.out (by kernel_rfl)) (fun _ _ _ h => h) (Or.inl ⟨by rfl, ?_⟩) ?_ ?_
             rotate_left
             ·intro w'
              go_simp
              with_reducible rfl
             rotate_left
             ·simp only [Act.put, zs1, zs2, zs3, i64_w, i32_w]
              rfl
             refine take_ (i := 8) (N := some 34) (v := ?_) (a' := ?_) (zB 12 511) rfl rfl (take_ofW HT_.out HW_.out (by kernel_rfl)) (fun _ _ _ h => h) (Or.inl ⟨by rfl, ?_⟩) hHeld ?_ ?_
             rotate_left
             ·rintro w' ⟨s0, s1, s2, s3, s4, s5, s6, s7⟩
              go_simp
              with_reducible rfl
             rotate_left
             ·simp only [Act.put, zs1, zs2, zs3, i64_w, i32_w]
              rfl
             refine take_ (i := 9) (N := some 35) (v := ?_) (a' := ?_) (zB 12 1023) rfl rfl (take_ofW HT_.out HW_.out (by kernel_rfl)) (fun _ _ _ h => h) (Or.inl ⟨by rfl, ?_⟩) hHeld ?_ ?_
             rotate_left
             ·rintro w' ⟨s0, s1, s2, s3, s4, s5, s6, s7⟩
              go_simp
              with_reducible rfl
             rotate_left
             ·simp only [Act.put, zs1, zs2, zs3, i64_w, i32_w]
              rfl
             refine one_ (i := 10) (N := some 36) (zB 12 2047) rfl rfl (one_of HT_.out (by kernel_rfl)) (by decide) (fun K hK => ?_)
             refine goes_ Try.func88 (by kernel_rfl) rfl #[.agg #[.int .i64 ((rd_T58 t215 x9_2).f0), .int .i64 ((rd_T58 t215 x9_2).f1), .int .i64 ((rd_T58 t215 x9_2).f2), .int .i64 ((rd_T58 t215 x9_2).f3)], .agg #[.int .i64 a2_0, .int .i64 a2_1, .int .i64 a2_2, .int .i64 a2_3]] (by rfl) rfl rfl (by (try simp only [List.map_toArray, List.map_cons, List.map_nil]); first | done | rfl | (simp only [List.length_drop, List.length_take]; rfl)) ?_
             with_reducible refine (spec_l04Less.calls ((rd_T58 t215 x9_2).f0) ((rd_T58 t215 x9_2).f1) ((rd_T58 t215 x9_2).f2) ((rd_T58 t215 x9_2).f3) a2_0 a2_1 a2_2 a2_3 false _ A32.out).mono ?_
             rintro e w43 ⟨rfl, hb⟩
             have HS4_ := (hb.cell (World.block_lt_of_cell? _ _ (hHeld.2.2.2.2.1))).trans (hHeld.2.2.2.2.1)
             have HS5_ := (hb.cell (World.block_lt_of_cell? _ _ (hHeld.2.2.2.2.2.1))).trans (hHeld.2.2.2.2.2.1)
             have HS6_ := (hb.cell (World.block_lt_of_cell? _ _ (hHeld.2.2.2.2.2.2.1))).trans (hHeld.2.2.2.2.2.2.1)
             have HS7_ := (hb.cell (World.block_lt_of_cell? _ _ (hHeld.2.2.2.2.2.2.2))).trans (hHeld.2.2.2.2.2.2.2)
             refine ⟨_, rfl, ?_⟩
             replace HO_8 := zp.mk (Kd.R_below (by (with_reducible repeat (first | apply Kd.R_alloc | apply Kd.R_drewN | apply Kd.R_drew)); exact HO_8.out) hb)
             replace BK211 := zp.mk (zl (zv8 BK211.out) hb)
             replace BK212 := zp.mk (zl (zv8 BK212.out) hb)
             replace HB := zp.mk (zj (zv7 HB.out) hb)
             (try clear hb)
             (try clear hb2)
             (try clear hk)
             (try clear hi)
             refine hK.out _ _ ⟨(ze BK212.out 0).trans rfl, (ze BK212.out 1).trans rfl, (ze BK212.out 2).trans rfl, (ze BK212.out 3).trans rfl, HS4_, HS5_, HS6_, HS7_⟩ (fun hHeld => ?_)
             clear hK K
             refine norm_ (a' := ?_) ?_ ?_
             rotate_left
             ·show Act.put _ (some 36) _ = _
              simp only [Act.put, zs1, zs2, zs3, i64_w, i32_w]
              rfl
             refine pure_ (i := 11) (N := some 37) (v := ?_) (a' := ?_) (zB 12 4095) rfl rfl (any_of HT_.out (by kernel_rfl)) (fun _ _ _ h => h) (Or.inl ⟨by rfl, ?_⟩) ?_ ?_
             rotate_left
             ·intro w'
              go_simp
              with_reducible rfl
             rotate_left
             ·simp only [Act.put, zs1, zs2, zs3, i64_w, i32_w]
              rfl
             refine done_ (done_of HT_.out (by kernel_rfl)) ?_
             try go_wp2
             replace HO_8 := zp.mk (Kd.R_drew HO_8.out)
             replace BK211 := zp.mk (zi BK211.out)
             replace BK212 := zp.mk (zi BK212.out)
             replace HB := zp.mk (zb HB.out)
             have q45 : (x9_2 : Int) ≤ ((t215.length : Int) : Int) := of_decide_eq_true (by first | (with_reducible assumption) | assumption)
             obtain ⟨i045, hi045, _, hsz45, _⟩ := info_parts info58
             have hroom45 : t215.length ≤ co29 := (Kd.R_reads' HO_8.out).2.1
             have hC45 : Kd.C k58 _ (some ad218) t215.length t215 := (Kd.R_reads' HO_8.out).2.2
             have hcut45 := cut_to (P := Try.prog) 64 58 .i64 Try.underlying64 hi045 (some ad218) t215.length co29 x9_2 (of_decide_eq_true (by first | (with_reducible assumption) | assumption)) q45 hroom45
             have hr45 := Kd.C_take (m := (x9_2 : Int).toNat) hC45 (by omega)
             have hy45 : y223.length = (x9_2 : Int).toNat := (by rw [Ny223.out, List.length_take]; omega)
             rw [← Ny223.out] at hr45
             rw [← hy45] at hcut45
             have HR226 := zp.mk hr45
             have HC226 := zp.mk (show y223.length ≤ co29 from by omega)
             clear hr45 hC45 hroom45 hi045 hsz45
             have KY45 := zp.mk hy45
             clear hy45
             have KL45 := zp.mk (show (x9_2 : Int).toNat ≤ t215.length from by omega)
             replace q45 := eq_true q45
             have q46 : (x9_2 : Int) ≤ ((t215.length : Int) : Int) := of_decide_eq_true (by first | (with_reducible assumption) | assumption)
             obtain ⟨i046, hi046, _, hsz46, _⟩ := info_parts info58
             have hroom46 : t215.length ≤ co29 := (Kd.R_reads' HO_8.out).2.1
             have hC46 : Kd.C k58 _ (some ad218) t215.length t215 := (Kd.R_reads' HO_8.out).2.2
             have q046 : (0 : Int) ≤ (x9_2 : Int) := of_decide_eq_true (by first | (with_reducible assumption) | assumption)
             have hcut46 := cut_from (P := Try.prog) 64 58 .i64 Try.underlying64 hi046 4 hsz46 (some ad218) t215.length co29 x9_2 q046 q46
             have hr46 := Kd.C_drop (m := (x9_2 : Int).toNat) (c := co29) hC46 (by omega) hroom46
             obtain ⟨A46, hA46⟩ : ∃ A1, A1 = (if co29 = (x9_2 : Int).toNat then (some ad218) else ((some ad218) : Option Addr).map (·.add ((x9_2 : Int).toNat * 4))) := ⟨_, rfl⟩
             obtain ⟨c46, hc46⟩ : ∃ c1, c1 = co29 - (x9_2 : Int).toNat := ⟨_, rfl⟩
             have hy46 : y236.length = t215.length - (x9_2 : Int).toNat := (by rw [Ny236.out, List.length_drop] <;> omega)
             rw [show (t215).drop (x9_2 : Int).toNat = y236 from Ny236.out.symm] at hr46
             replace hr46 : Kd.C k58 _ A46 y236.length y236 := (by rw [hA46]; exact hr46)
             rw [← hy46, ← hA46, ← hc46] at hcut46
             have HR239 := zp.mk hr46
             have HC239 := zp.mk (show y236.length ≤ c46 from by rw [hy46, hc46]; exact Nat.sub_le_sub_right hroom46 _)
             clear hr46 hC46 hroom46 hi046 hsz46 hc46
             have KY46 := zp.mk hy46
             have KA46 := zp.mk hA46
             clear hy46 hA46
             have KL46 := zp.mk (show (x9_2 : Int).toNat ≤ t215.length from by omega)
             replace q46 := eq_true q46
             refine start_ (n := 14) (S := fun w' => w'.cell? ⟨gb212, 0, none⟩ = some (.int .i64 a2_0) ∧ w'.cell? ⟨gb212, 1, none⟩ = some (.int .i64 a2_1) ∧ w'.cell? ⟨gb212, 2, none⟩ = some (.int .i64 a2_2) ∧ w'.cell? ⟨gb212, 3, none⟩ = some (.int .i64 a2_3)) (ds := []) (zB 14 0) (by kernel_rfl) rfl rfl ⟨(ze BK212.out 0).trans rfl, (ze BK212.out 1).trans rfl, (ze BK212.out 2).trans rfl, (ze BK212.out 3).trans rfl⟩ (fun hHeld => ?_); refine with_tabW spec_PolicySet.tab9 spec_PolicySet.bits9 (fun HT_ HW_ => ?_)
             generalize w43.drew = w44 at HO_8 BK211 BK212 HB HR226 HR239 hHeld ⊢
             refine pure_ (i := 1) (N := some 41) (v := ?_) (a' := ?_) (zB 14 2) rfl rfl (any_of HT_.out (by kernel_rfl)) (fun _ _ _ h => h) (Or.inl ⟨by rfl, ?_⟩) ?_ ?_
             rotate_left
             ·intro w'
              go_simp
              with_reducible rfl
             rotate_left
             ·simp only [Act.put, zs1, zs2, zs3, i64_w, i32_w]
              rfl
             refine pure_ (i := 2) (N := some 42) (v := ?_) (a' := ?_) (zB 14 6) rfl rfl (any_of HT_.out (by kernel_rfl)) (fun _ _ _ h => h) (Or.inl ⟨by rfl, ?_⟩) ?_ ?_
             rotate_left
             ·intro w'
              go_simp
              with_reducible rfl
             rotate_left
             ·simp only [Act.put, zs1, zs2, zs3, i64_w, i32_w]
              rfl
             refine pure_ (i := 3) (N := some 43) (v := ?_) (a' := ?_) (zB 14 14) rfl rfl (any_of HT_.out (by kernel_rfl)) (fun _ _ _ h => h) (Or.inl ⟨by rfl, ?_⟩) ?_ ?_
             rotate_left
             ·intro w'
              go_simp
              with_reducible rfl
             rotate_left
             ·simp only [Act.put, zs1, zs2, zs3, i64_w, i32_w]
              rfl
             refine pure_ (i := 8) (N := some 48) (v := ?_) (a' := ?_) (zB 14 270) rfl rfl (any_of HT_.out (by kernel_rfl)) (fun _ _ _ h => h) (Or.inl ⟨by rfl, ?_⟩) ?_ ?_
             rotate_left
             ·intro w'
              go_simp
              with_reducible rfl
             rotate_left
             ·simp only [Act.put, zs1, zs2, zs3, i64_w, i32_w]
              rfl
             refine pure_ (i := 9) (N := some 49) (v := ?_) (a' := ?_) (zB 14 782) rfl rfl (any_of HT_.out (by kernel_rfl)) (fun _ _ _ h => h) (Or.inl ⟨by rfl, ?_⟩) ?_ ?_
             rotate_left
             ·intro w'
              go_simp
              with_reducible rfl
             rotate_left
             ·simp only [Act.put, zs1, zs2, zs3, i64_w, i32_w]
              rfl
             refine pure_ (i := 10) (N := some 50) (v := ?_) (a' := ?_) (zB 14 1806) rfl rfl (any_of HT_.out (by kernel_rfl)) (fun _ _ _ h => h) (Or.inl ⟨by rfl, ?_⟩) ?_ ?_
             rotate_left
             ·intro w'
              go_simp
              with_reducible rfl
             rotate_left
             ·simp only [Act.put, zs1, zs2, zs3, i64_w, i32_w]
              rfl
             refine take_ (i := 5) (N := some 45) (v := ?_) (a' := ?_) (zB 14 1838) rfl rfl (take_ofW HT_.out HW_.out (by kernel_rfl)) (fun _ _ _ h => h) (Or.inl ⟨by rfl, ?_⟩) hHeld ?_ ?_
             rotate_left
             ·rintro w' ⟨s0, s1, s2, s3⟩
              go_simp
              with_reducible rfl
             rotate_left
             ·simp only [Act.put, zs1, zs2, zs3, i64_w, i32_w]
              rfl
             refine join_ (σ := Value × Value × Value) 4 (zB 14 1919) (fun s_ => [(40, s_.1), (44, s_.2.1), (46, s_.2.2)]) (fun s_ w' => (w'.cell? ⟨gb212, 0, none⟩ = some (.int .i64 a2_0) ∧ w'.cell? ⟨gb212, 1, none⟩ = some (.int .i64 a2_1) ∧ w'.cell? ⟨gb212, 2, none⟩ = some (.int .i64 a2_2) ∧ w'.cell? ⟨gb212, 3, none⟩ = some (.int .i64 a2_3)) ∧ (Kd.R k58 58 w' w.heap.size (fun k_ => some k_ ≠ (s_.2.2 : Value).ownBlock ∧ some k_ ≠ (.slice (some ad218) t215.length co29 : Value).ownBlock ∧ k_ ≠ gb212) s_.2.1 y227) ∧ (Kd.R k58 58 w' w.heap.size (fun k_ => some k_ ≠ (s_.2.1 : Value).ownBlock ∧ some k_ ≠ (.slice (some ad218) t215.length co29 : Value).ownBlock ∧ k_ ≠ gb212) s_.2.2 y230) ∧ (Kd.R k58 58 w' w.heap.size (fun k_ => some k_ ≠ (s_.2.1 : Value).ownBlock ∧ some k_ ≠ (s_.2.2 : Value).ownBlock ∧ k_ ≠ gb212) (.slice (some ad218) t215.length co29) t215) ∧ (w'.heap[gb211]? = some (.cells #[.int .i64 a0_0, .slice A0_1 l0_1.length c0_1] 27 (0, 0))) ∧ (w'.heap[gb212]? = some (.cells #[.int .i64 a2_0, .int .i64 a2_1, .int .i64 a2_2, .int .i64 a2_3] 58 (0, 0))) ∧ (Below w.heap.size w w')) ?_ ?_
             rotate_left
             ·intro hCont
              refine two_ (i := 0) (j := 6) (Ni := some 40) (Nj := some 46) (zB 14 1839) (zB 14 1902) rfl rfl rfl rfl (two_of HT_.out (by kernel_rfl)) (by decide) (by decide) (fun K hK => ?_) (fun K hK => ?_)
              ·skip
               refine Kd.R_lit_step k58 _ 58 ?hg (N := 40) ?hd (xs := ([] : List (S58))) (inner := []) (ok := fun _ => True) (okp := fun _ => True) ?hr ?hp (fun _ hk => hk) trivial (Below.refl _ _) (Nat.le_refl _) (by simp) ?_; (case hd => rfl); (case hg => rfl); (case hr => first | (go_simp; done) | (go_simp; rfl)); (case hp => exact (Reps.none _ _))
               intro v221 w47 ho48 hb hg_ hnew_
               clear hg_ hnew_
               (first | rw [← Ny220.out] at ho48 | (simp only [Int.reduceToNat] at ho48; rw [← Ny220.out] at ho48))
               have HO222 := zp.mk (Kd.R_lower (Kd.R_newB (Kd.R_new' ho48 (Kd.R_lt (by (with_reducible repeat (first | apply Kd.R_alloc | apply Kd.R_drewN | apply Kd.R_drew)); exact HO_8.out))) (g := gb212) (o := .cells #[.int .i64 a2_0, .int .i64 a2_1, .int .i64 a2_2, .int .i64 a2_3] 58 (0, 0)) (zv8 BK212.out)) (zk (zv7 HB.out)))
               replace HO_8 := zp.mk (Kd.R_elder' (by (with_reducible repeat (first | apply Kd.R_alloc | apply Kd.R_drewN | apply Kd.R_drew)); exact HO_8.out) (Kd.R_base ho48) hb)
               replace BK211 := zp.mk (zl (zv8 BK211.out) hb)
               replace BK212 := zp.mk (zl (zv8 BK212.out) hb)
               replace HR226 := zp.mk (Kd.zt (by repeat (first | (with_reducible exact HR226.out) | (with_reducible refine Kd.zr ?_ _) | (with_reducible refine Kd.zq ?_ _) | (with_reducible refine Kd.C_drew ?_) | exact HR226.out)) hb)
               replace HR239 := zp.mk (Kd.zt (by repeat (first | (with_reducible exact HR239.out) | (with_reducible refine Kd.zr ?_ _) | (with_reducible refine Kd.zq ?_ _) | (with_reducible refine Kd.C_drew ?_) | exact HR239.out)) hb)
               replace HB := zp.mk (zj (zv7 HB.out) hb)
               clear hb ho48
               refine hK.out _ _ ⟨(ze BK212.out 0).trans rfl, (ze BK212.out 1).trans rfl, (ze BK212.out 2).trans rfl, (ze BK212.out 3).trans rfl⟩ (fun hHeld => ?_)
               clear hK K
               refine norm_ (a' := ?_) ?_ ?_
               rotate_left
               ·show Act.put _ (some 40) _ = _
                simp only [Act.put, zs1, zs2, zs3, i64_w, i32_w]
                rfl
               refine two_ (i := 4) (j := 6) (Ni := some 44) (Nj := some 46) (zB 14 1855) (zB 14 1903) rfl rfl rfl rfl (two_of HT_.out (by kernel_rfl)) (by decide) (by decide) (fun K hK => ?_) (fun K hK => ?_)
               ·skip
                refine Kd.R_append_rows_step k58 (w0 := w) w.heap.size (by rfl) (.tmp 40) (.tmp 43) 64 58 (.agg #[(.int .i64 0), (.int .i64 0), (.int .i64 0), (.int .i64 0)]) 32 rfl Try.underlying64 info58 rfl (by decide) (by omega) v221 y220 y223 _ _ _ (fun k_ => some k_ ≠ (.slice (some ad218) t215.length co29 : Value).ownBlock ∧ k_ ≠ gb212) (fun _ => False) rfl rfl ?aO ?aR (fun _ _ h => h) (fun _ h => h.elim) ?aF ?aB ?aS ?aL ?_
                (case aR => repeat (first | exact (by repeat (first | (with_reducible exact HR226.out) | (with_reducible refine Kd.zr ?_ _) | (with_reducible refine Kd.zq ?_ _) | (with_reducible refine Kd.C_drew ?_) | exact HR226.out)) | (with_reducible refine Kd.zr ?_ _) | (with_reducible refine Kd.zq ?_ _) | (with_reducible refine Kd.C_drew ?_)))
                (case aB => exact (zv7 HB.out))
                (case aF => exact (fun k_ hk => ⟨Kd.fresh' (Kd.R_lt (by (with_reducible repeat (first | apply Kd.R_alloc | apply Kd.R_drewN | apply Kd.R_drew)); exact HO_8.out)) k_ hk, Kd.freshB (g := gb212) (o := .cells #[.int .i64 a2_0, .int .i64 a2_1, .int .i64 a2_2, .int .i64 a2_3] 58 (0, 0)) (zv8 BK212.out) k_ hk⟩))
                (case aO => exact (by (with_reducible repeat (first | apply Kd.R_alloc | apply Kd.R_drewN | apply Kd.R_drew)); exact Kd.R_mono HO222.out (fun _ hk => ⟨hk.1.2, hk.2⟩)))
                (case aS => exact (zk (zv7 HB.out)))
                (case aL => have := LMc38.out; omega)
                intro v228 w49 ho hb hg hat
                rw [← Ny227.out] at ho
                have n0_ := zp.mk (Kd.R_after (ok := (fun k_ => k_ ≠ gb212)) (by (with_reducible repeat (first | apply Kd.R_alloc | apply Kd.R_drewN | apply Kd.R_drew)); exact HO_8.out) hg hat)
                have n1_ := zp.mk (blk_grown (g := gb211) (o := .cells #[.int .i64 a0_0, .slice A0_1 l0_1.length c0_1] 27 (0, 0)) (zv8 BK211.out) hg (Kd.R_ne HO222.out BK211.out (by decide)))
                have n2_ := zp.mk (blk_grown (g := gb212) (o := .cells #[.int .i64 a2_0, .int .i64 a2_1, .int .i64 a2_2, .int .i64 a2_3] 58 (0, 0)) (zv8 BK212.out) hg (Kd.R_away HO222.out (fun _ hk => hk.2)))
                have n3_ := zp.mk (hb)
                have n4_ := zp.mk ((show Kd.C k58 w49 (some ad218) y223.length y223 from by rw [Ny223.out]; exact Kd.C_take (m := (x9_2 : Int).toNat) ((Kd.R_reads' (Kd.R_after (ok := (fun k_ => k_ ≠ gb212)) (by (with_reducible repeat (first | apply Kd.R_alloc | apply Kd.R_drewN | apply Kd.R_drew)); exact HO_8.out) hg hat)).2.2) KL45.out))
                have n5_ := zp.mk ((show Kd.C k58 w49 A46 y236.length y236 from by rw [Ny236.out, KA46.out]; exact Kd.C_drop (m := (x9_2 : Int).toNat) (c := co29) ((Kd.R_reads' (Kd.R_after (ok := (fun k_ => k_ ≠ gb212)) (by (with_reducible repeat (first | apply Kd.R_alloc | apply Kd.R_drewN | apply Kd.R_drew)); exact HO_8.out) hg hat)).2.2) KL46.out ((Kd.R_reads' (Kd.R_after (ok := (fun k_ => k_ ≠ gb212)) (by (with_reducible repeat (first | apply Kd.R_alloc | apply Kd.R_drewN | apply Kd.R_drew)); exact HO_8.out) hg hat)).2.1)))
                have n6_ := zp.mk (ho)
                clear HO_8
                clear BK211
                clear BK212
                clear HB
                clear HR226
                clear HR239
                clear HO222
                have HO_8 := n0_
                have BK211 := n1_
                have BK212 := n2_
                have HB := n3_
                have HR226 := n4_
                have HR239 := n5_
                have HO229 := n6_
                clear n0_ n1_ n2_ n3_ n4_ n5_ n6_
                clear ho hb hg hat
                refine hK.out _ _ ⟨(ze BK212.out 0).trans rfl, (ze BK212.out 1).trans rfl, (ze BK212.out 2).trans rfl, (ze BK212.out 3).trans rfl⟩ (fun hHeld => ?_)
                clear hK K
                refine norm_ (a' := ?_) ?_ ?_
                rotate_left
                ·show Act.put _ (some 44) _ = _
                 simp only [Act.put, zs1, zs2, zs3, i64_w, i32_w]
                 rfl
                refine one_ (i := 6) (N := some 46) (zB 14 1919) rfl rfl (one_of HT_.out (by kernel_rfl)) (by decide) (fun K hK => ?_)
                refine Kd.R_lit_step k58 _ 58 ?hg (N := 46) ?hd (xs := ([(⟨a2_0, a2_1, a2_2, a2_3⟩ : S58)] : List (S58))) (inner := [.int .i64 a2_0, .int .i64 a2_1, .int .i64 a2_2, .int .i64 a2_3]) (ok := fun _ => True) (okp := fun _ => True) ?hr ?hp (fun _ hk => hk) trivial (Below.refl _ _) (Nat.le_refl _) (by simp) ?_; (case hd => rfl); (case hg => rfl); (case hr => first | (go_simp; done) | (go_simp; rfl)); (case hp => exact (Reps.c4 (show Kd.M k58 _ _ _ (⟨a2_0, a2_1, a2_2, a2_3⟩ : S58) [.int .i64 a2_0, .int .i64 a2_1, .int .i64 a2_2, .int .i64 a2_3] from (k58_mkM _ _ _ (⟨a2_0, a2_1, a2_2, a2_3⟩ : S58) )) (Reps.none _ _)))
                intro v231 w50 ho51 hb hg_ hnew_
                clear hg_ hnew_
                (first | rw [← Ny230.out] at ho51 | (simp only [Int.reduceToNat] at ho51; rw [← Ny230.out] at ho51))
                have HO232 := zp.mk (Kd.R_lower (Kd.R_newB (Kd.R_new' (Kd.R_new' ho51 (Kd.R_lt (by (with_reducible repeat (first | apply Kd.R_alloc | apply Kd.R_drewN | apply Kd.R_drew)); exact HO_8.out))) (Kd.R_lt (by (with_reducible repeat (first | apply Kd.R_alloc | apply Kd.R_drewN | apply Kd.R_drew)); exact HO229.out))) (g := gb212) (o := .cells #[.int .i64 a2_0, .int .i64 a2_1, .int .i64 a2_2, .int .i64 a2_3] 58 (0, 0)) (zv8 BK212.out)) (zk (zv7 HB.out)))
                replace HO_8 := zp.mk (Kd.R_elder' (by (with_reducible repeat (first | apply Kd.R_alloc | apply Kd.R_drewN | apply Kd.R_drew)); exact HO_8.out) (Kd.R_base ho51) hb)
                replace HO229 := zp.mk (Kd.R_elder' (by (with_reducible repeat (first | apply Kd.R_alloc | apply Kd.R_drewN | apply Kd.R_drew)); exact HO229.out) (Kd.R_base ho51) hb)
                replace BK211 := zp.mk (zl (zv8 BK211.out) hb)
                replace BK212 := zp.mk (zl (zv8 BK212.out) hb)
                replace HR226 := zp.mk (Kd.zt (by repeat (first | (with_reducible exact HR226.out) | (with_reducible refine Kd.zr ?_ _) | (with_reducible refine Kd.zq ?_ _) | (with_reducible refine Kd.C_drew ?_) | exact HR226.out)) hb)
                replace HR239 := zp.mk (Kd.zt (by repeat (first | (with_reducible exact HR239.out) | (with_reducible refine Kd.zr ?_ _) | (with_reducible refine Kd.zq ?_ _) | (with_reducible refine Kd.C_drew ?_) | exact HR239.out)) hb)
                replace HB := zp.mk (zj (zv7 HB.out) hb)
                clear hb ho51
                refine hK.out _ _ ⟨(ze BK212.out 0).trans rfl, (ze BK212.out 1).trans rfl, (ze BK212.out 2).trans rfl, (ze BK212.out 3).trans rfl⟩ (fun hHeld => ?_)
                clear hK K
                refine norm_ (a' := ?_) ?_ ?_
                rotate_left
                ·show Act.put _ (some 46) _ = _
                 simp only [Act.put, zs1, zs2, zs3, i64_w, i32_w]
                 rfl
                exact norm_ (by simp only [putAll, Act.put, zs1, zs2, zs3]) (hCont (v221, v228, v231) _ ⟨hHeld, (by (with_reducible repeat (first | apply Kd.R_alloc | apply Kd.R_drewN | apply Kd.R_drew)); exact Kd.R_mono HO229.out (fun _ hk => ⟨hk.2, ⟨hk.1.1, hk.1.2⟩⟩)), (by (with_reducible repeat (first | apply Kd.R_alloc | apply Kd.R_drewN | apply Kd.R_drew)); exact Kd.R_mono HO232.out (fun _ hk => ⟨hk.1.2, ⟨hk.1.1.2, hk.2⟩⟩)), (by (with_reducible repeat (first | apply Kd.R_alloc | apply Kd.R_drewN | apply Kd.R_drew)); exact Kd.R_mono HO_8.out (fun _ hk => ⟨hk.1.2, ⟨hk.2, hk.1.1⟩⟩)), (zv8 BK211.out), (zv8 BK212.out), (zv7 HB.out)⟩)
               ·skip
                refine Kd.R_lit_step k58 _ 58 ?hg (N := 46) ?hd (xs := ([(⟨a2_0, a2_1, a2_2, a2_3⟩ : S58)] : List (S58))) (inner := [.int .i64 a2_0, .int .i64 a2_1, .int .i64 a2_2, .int .i64 a2_3]) (ok := fun _ => True) (okp := fun _ => True) ?hr ?hp (fun _ hk => hk) trivial (Below.refl _ _) (Nat.le_refl _) (by simp) ?_; (case hd => rfl); (case hg => rfl); (case hr => first | (go_simp; done) | (go_simp; rfl)); (case hp => exact (Reps.c4 (show Kd.M k58 _ _ _ (⟨a2_0, a2_1, a2_2, a2_3⟩ : S58) [.int .i64 a2_0, .int .i64 a2_1, .int .i64 a2_2, .int .i64 a2_3] from (k58_mkM _ _ _ (⟨a2_0, a2_1, a2_2, a2_3⟩ : S58) )) (Reps.none _ _)))
                intro v231 w49 ho50 hb hg_ hnew_
                clear hg_ hnew_
                (first | rw [← Ny230.out] at ho50 | (simp only [Int.reduceToNat] at ho50; rw [← Ny230.out] at ho50))
                have HO232 := zp.mk (Kd.R_lower (Kd.R_newB (Kd.R_new' (Kd.R_new' ho50 (Kd.R_lt (by (with_reducible repeat (first | apply Kd.R_alloc | apply Kd.R_drewN | apply Kd.R_drew)); exact HO_8.out))) (Kd.R_lt (by (with_reducible repeat (first | apply Kd.R_alloc | apply Kd.R_drewN | apply Kd.R_drew)); exact HO222.out))) (g := gb212) (o := .cells #[.int .i64 a2_0, .int .i64 a2_1, .int .i64 a2_2, .int .i64 a2_3] 58 (0, 0)) (zv8 BK212.out)) (zk (zv7 HB.out)))
                replace HO_8 := zp.mk (Kd.R_elder' (by (with_reducible repeat (first | apply Kd.R_alloc | apply Kd.R_drewN | apply Kd.R_drew)); exact HO_8.out) (Kd.R_base ho50) hb)
                replace HO222 := zp.mk (Kd.R_elder' (by (with_reducible repeat (first | apply Kd.R_alloc | apply Kd.R_drewN | apply Kd.R_drew)); exact HO222.out) (Kd.R_base ho50) hb)
                replace BK211 := zp.mk (zl (zv8 BK211.out) hb)
                replace BK212 := zp.mk (zl (zv8 BK212.out) hb)
                replace HR226 := zp.mk (Kd.zt (by repeat (first | (with_reducible exact HR226.out) | (with_reducible refine Kd.zr ?_ _) | (with_reducible refine Kd.zq ?_ _) | (with_reducible refine Kd.C_drew ?_) | exact HR226.out)) hb)
                replace HR239 := zp.mk (Kd.zt (by repeat (first | (with_reducible exact HR239.out) | (with_reducible refine Kd.zr ?_ _) | (with_reducible refine Kd.zq ?_ _) | (with_reducible refine Kd.C_drew ?_) | exact HR239.out)) hb)
                replace HB := zp.mk (zj (zv7 HB.out) hb)
                clear hb ho50
                refine hK.out _ _ ⟨(ze BK212.out 0).trans rfl, (ze BK212.out 1).trans rfl, (ze BK212.out 2).trans rfl, (ze BK212.out 3).trans rfl⟩ (fun hHeld => ?_)
                clear hK K
                refine norm_ (a' := ?_) ?_ ?_
                rotate_left
                ·show Act.put _ (some 46) _ = _
                 simp only [Act.put, zs1, zs2, zs3, i64_w, i32_w]
                 rfl
                refine one_ (i := 4) (N := some 44) (zB 14 1919) rfl rfl (one_of HT_.out (by kernel_rfl)) (by decide) (fun K hK => ?_)
                refine Kd.R_append_rows_step k58 (w0 := w) w.heap.size (by rfl) (.tmp 40) (.tmp 43) 64 58 (.agg #[(.int .i64 0), (.int .i64 0), (.int .i64 0), (.int .i64 0)]) 32 rfl Try.underlying64 info58 rfl (by decide) (by omega) v221 y220 y223 _ _ _ (fun k_ => some k_ ≠ (.slice (some ad218) t215.length co29 : Value).ownBlock ∧ some k_ ≠ (v231 : Value).ownBlock ∧ k_ ≠ gb212) (fun _ => False) rfl rfl ?aO ?aR (fun _ _ h => h) (fun _ h => h.elim) ?aF ?aB ?aS ?aL ?_
                (case aR => repeat (first | exact (by repeat (first | (with_reducible exact HR226.out) | (with_reducible refine Kd.zr ?_ _) | (with_reducible refine Kd.zq ?_ _) | (with_reducible refine Kd.C_drew ?_) | exact HR226.out)) | (with_reducible refine Kd.zr ?_ _) | (with_reducible refine Kd.zq ?_ _) | (with_reducible refine Kd.C_drew ?_)))
                (case aB => exact (zv7 HB.out))
                (case aF => exact (fun k_ hk => ⟨Kd.fresh' (Kd.R_lt (by (with_reducible repeat (first | apply Kd.R_alloc | apply Kd.R_drewN | apply Kd.R_drew)); exact HO_8.out)) k_ hk, Kd.fresh' (Kd.R_lt (by (with_reducible repeat (first | apply Kd.R_alloc | apply Kd.R_drewN | apply Kd.R_drew)); exact HO232.out)) k_ hk, Kd.freshB (g := gb212) (o := .cells #[.int .i64 a2_0, .int .i64 a2_1, .int .i64 a2_2, .int .i64 a2_3] 58 (0, 0)) (zv8 BK212.out) k_ hk⟩))
                (case aO => exact (by (with_reducible repeat (first | apply Kd.R_alloc | apply Kd.R_drewN | apply Kd.R_drew)); exact Kd.R_mono HO222.out (fun _ hk => ⟨hk.1.1.2, ⟨hk.2, hk.1.2⟩⟩)))
                (case aS => exact (zk (zv7 HB.out)))
                (case aL => have := LMc38.out; omega)
                intro v228 w51 ho hb hg hat
                rw [← Ny227.out] at ho
                have n0_ := zp.mk (Kd.R_after (ok := (fun k_ => some k_ ≠ (v231 : Value).ownBlock ∧ k_ ≠ gb212)) (by (with_reducible repeat (first | apply Kd.R_alloc | apply Kd.R_drewN | apply Kd.R_drew)); exact Kd.R_mono HO_8.out (fun _ hk => ⟨⟨hk.2, hk.1.1⟩, hk.1.2⟩)) hg hat)
                have n1_ := zp.mk (blk_grown (g := gb211) (o := .cells #[.int .i64 a0_0, .slice A0_1 l0_1.length c0_1] 27 (0, 0)) (zv8 BK211.out) hg (Kd.R_ne HO222.out BK211.out (by decide)))
                have n2_ := zp.mk (blk_grown (g := gb212) (o := .cells #[.int .i64 a2_0, .int .i64 a2_1, .int .i64 a2_2, .int .i64 a2_3] 58 (0, 0)) (zv8 BK212.out) hg (Kd.R_away HO222.out (fun _ hk => hk.1.2)))
                have n3_ := zp.mk (Kd.R_after (ok := (fun k_ => some k_ ≠ (.slice (some ad218) t215.length co29 : Value).ownBlock ∧ k_ ≠ gb212)) (by (with_reducible repeat (first | apply Kd.R_alloc | apply Kd.R_drewN | apply Kd.R_drew)); exact Kd.R_mono HO232.out (fun _ hk => ⟨⟨hk.1.1.2, hk.2⟩, hk.1.2⟩)) hg hat)
                have n4_ := zp.mk (hb)
                have n5_ := zp.mk ((show Kd.C k58 w51 (some ad218) y223.length y223 from by rw [Ny223.out]; exact Kd.C_take (m := (x9_2 : Int).toNat) ((Kd.R_reads' (Kd.R_after (ok := (fun k_ => some k_ ≠ (v231 : Value).ownBlock ∧ k_ ≠ gb212)) (by (with_reducible repeat (first | apply Kd.R_alloc | apply Kd.R_drewN | apply Kd.R_drew)); exact Kd.R_mono HO_8.out (fun _ hk => ⟨⟨hk.2, hk.1.1⟩, hk.1.2⟩)) hg hat)).2.2) KL45.out))
                have n6_ := zp.mk ((show Kd.C k58 w51 A46 y236.length y236 from by rw [Ny236.out, KA46.out]; exact Kd.C_drop (m := (x9_2 : Int).toNat) (c := co29) ((Kd.R_reads' (Kd.R_after (ok := (fun k_ => some k_ ≠ (v231 : Value).ownBlock ∧ k_ ≠ gb212)) (by (with_reducible repeat (first | apply Kd.R_alloc | apply Kd.R_drewN | apply Kd.R_drew)); exact Kd.R_mono HO_8.out (fun _ hk => ⟨⟨hk.2, hk.1.1⟩, hk.1.2⟩)) hg hat)).2.2) KL46.out ((Kd.R_reads' (Kd.R_after (ok := (fun k_ => some k_ ≠ (v231 : Value).ownBlock ∧ k_ ≠ gb212)) (by (with_reducible repeat (first | apply Kd.R_alloc | apply Kd.R_drewN | apply Kd.R_drew)); exact Kd.R_mono HO_8.out (fun _ hk => ⟨⟨hk.2, hk.1.1⟩, hk.1.2⟩)) hg hat)).2.1)))
                have n7_ := zp.mk (ho)
                clear HO_8
                clear BK211
                clear BK212
                clear HO232
                clear HB
                clear HR226
                clear HR239
                clear HO222
                have HO_8 := n0_
                have BK211 := n1_
                have BK212 := n2_
                have HO232 := n3_
                have HB := n4_
                have HR226 := n5_
                have HR239 := n6_
                have HO229 := n7_
                clear n0_ n1_ n2_ n3_ n4_ n5_ n6_ n7_
                clear ho hb hg hat
                refine hK.out _ _ ⟨(ze BK212.out 0).trans rfl, (ze BK212.out 1).trans rfl, (ze BK212.out 2).trans rfl, (ze BK212.out 3).trans rfl⟩ (fun hHeld => ?_)
                clear hK K
                refine norm_ (a' := ?_) ?_ ?_
                rotate_left
                ·show Act.put _ (some 44) _ = _
                 simp only [Act.put, zs1, zs2, zs3, i64_w, i32_w]
                 rfl
                exact norm_ (by simp only [putAll, Act.put, zs1, zs2, zs3]) (hCont (v221, v228, v231) _ ⟨hHeld, (by (with_reducible repeat (first | apply Kd.R_alloc | apply Kd.R_drewN | apply Kd.R_drew)); exact Kd.R_mono HO229.out (fun _ hk => ⟨hk.2.1, ⟨hk.1, hk.2.2⟩⟩)), (by (with_reducible repeat (first | apply Kd.R_alloc | apply Kd.R_drewN | apply Kd.R_drew)); exact Kd.R_mono HO232.out (fun _ hk => ⟨hk.2, ⟨hk.1.1, hk.1.2⟩⟩)), (by (with_reducible repeat (first | apply Kd.R_alloc | apply Kd.R_drewN | apply Kd.R_drew)); exact Kd.R_mono HO_8.out (fun _ hk => ⟨hk.2, ⟨hk.1.1, hk.1.2⟩⟩)), (zv8 BK211.out), (zv8 BK212.out), (zv7 HB.out)⟩)
              ·skip
               refine Kd.R_lit_step k58 _ 58 ?hg (N := 46) ?hd (xs := ([(⟨a2_0, a2_1, a2_2, a2_3⟩ : S58)] : List (S58))) (inner := [.int .i64 a2_0, .int .i64 a2_1, .int .i64 a2_2, .int .i64 a2_3]) (ok := fun _ => True) (okp := fun _ => True) ?hr ?hp (fun _ hk => hk) trivial (Below.refl _ _) (Nat.le_refl _) (by simp) ?_; (case hd => rfl); (case hg => rfl); (case hr => first | (go_simp; done) | (go_simp; rfl)); (case hp => exact (Reps.c4 (show Kd.M k58 _ _ _ (⟨a2_0, a2_1, a2_2, a2_3⟩ : S58) [.int .i64 a2_0, .int .i64 a2_1, .int .i64 a2_2, .int .i64 a2_3] from (k58_mkM _ _ _ (⟨a2_0, a2_1, a2_2, a2_3⟩ : S58) )) (Reps.none _ _)))
               intro v231 w47 ho48 hb hg_ hnew_
               clear hg_ hnew_
               (first | rw [← Ny230.out] at ho48 | (simp only [Int.reduceToNat] at ho48; rw [← Ny230.out] at ho48))
               have HO232 := zp.mk (Kd.R_lower (Kd.R_newB (Kd.R_new' ho48 (Kd.R_lt (by (with_reducible repeat (first | apply Kd.R_alloc | apply Kd.R_drewN | apply Kd.R_drew)); exact HO_8.out))) (g := gb212) (o := .cells #[.int .i64 a2_0, .int .i64 a2_1, .int .i64 a2_2, .int .i64 a2_3] 58 (0, 0)) (zv8 BK212.out)) (zk (zv7 HB.out)))
               replace HO_8 := zp.mk (Kd.R_elder' (by (with_reducible repeat (first | apply Kd.R_alloc | apply Kd.R_drewN | apply Kd.R_drew)); exact HO_8.out) (Kd.R_base ho48) hb)
               replace BK211 := zp.mk (zl (zv8 BK211.out) hb)
               replace BK212 := zp.mk (zl (zv8 BK212.out) hb)
               replace HR226 := zp.mk (Kd.zt (by repeat (first | (with_reducible exact HR226.out) | (with_reducible refine Kd.zr ?_ _) | (with_reducible refine Kd.zq ?_ _) | (with_reducible refine Kd.C_drew ?_) | exact HR226.out)) hb)
               replace HR239 := zp.mk (Kd.zt (by repeat (first | (with_reducible exact HR239.out) | (with_reducible refine Kd.zr ?_ _) | (with_reducible refine Kd.zq ?_ _) | (with_reducible refine Kd.C_drew ?_) | exact HR239.out)) hb)
               replace HB := zp.mk (zj (zv7 HB.out) hb)
               clear hb ho48
               refine hK.out _ _ ⟨(ze BK212.out 0).trans rfl, (ze BK212.out 1).trans rfl, (ze BK212.out 2).trans rfl, (ze BK212.out 3).trans rfl⟩ (fun hHeld => ?_)
               clear hK K
               refine norm_ (a' := ?_) ?_ ?_
               rotate_left
               ·show Act.put _ (some 46) _ = _
                simp only [Act.put, zs1, zs2, zs3, i64_w, i32_w]
                rfl
               refine one_ (i := 0) (N := some 40) (zB 14 1903) rfl rfl (one_of HT_.out (by kernel_rfl)) (by decide) (fun K hK => ?_)
               refine Kd.R_lit_step k58 _ 58 ?hg (N := 40) ?hd (xs := ([] : List (S58))) (inner := []) (ok := fun _ => True) (okp := fun _ => True) ?hr ?hp (fun _ hk => hk) trivial (Below.refl _ _) (Nat.le_refl _) (by simp) ?_; (case hd => rfl); (case hg => rfl); (case hr => first | (go_simp; done) | (go_simp; rfl)); (case hp => exact (Reps.none _ _))
               intro v221 w49 ho50 hb hg_ hnew_
               clear hg_ hnew_
               (first | rw [← Ny220.out] at ho50 | (simp only [Int.reduceToNat] at ho50; rw [← Ny220.out] at ho50))
               have HO222 := zp.mk (Kd.R_lower (Kd.R_newB (Kd.R_new' (Kd.R_new' ho50 (Kd.R_lt (by (with_reducible repeat (first | apply Kd.R_alloc | apply Kd.R_drewN | apply Kd.R_drew)); exact HO_8.out))) (Kd.R_lt (by (with_reducible repeat (first | apply Kd.R_alloc | apply Kd.R_drewN | apply Kd.R_drew)); exact HO232.out))) (g := gb212) (o := .cells #[.int .i64 a2_0, .int .i64 a2_1, .int .i64 a2_2, .int .i64 a2_3] 58 (0, 0)) (zv8 BK212.out)) (zk (zv7 HB.out)))
               replace HO_8 := zp.mk (Kd.R_elder' (by (with_reducible repeat (first | apply Kd.R_alloc | apply Kd.R_drewN | apply Kd.R_drew)); exact HO_8.out) (Kd.R_base ho50) hb)
               replace HO232 := zp.mk (Kd.R_elder' (by (with_reducible repeat (first | apply Kd.R_alloc | apply Kd.R_drewN | apply Kd.R_drew)); exact HO232.out) (Kd.R_base ho50) hb)
               replace BK211 := zp.mk (zl (zv8 BK211.out) hb)
               replace BK212 := zp.mk (zl (zv8 BK212.out) hb)
               replace HR226 := zp.mk (Kd.zt (by repeat (first | (with_reducible exact HR226.out) | (with_reducible refine Kd.zr ?_ _) | (with_reducible refine Kd.zq ?_ _) | (with_reducible refine Kd.C_drew ?_) | exact HR226.out)) hb)
               replace HR239 := zp.mk (Kd.zt (by repeat (first | (with_reducible exact HR239.out) | (with_reducible refine Kd.zr ?_ _) | (with_reducible refine Kd.zq ?_ _) | (with_reducible refine Kd.C_drew ?_) | exact HR239.out)) hb)
               replace HB := zp.mk (zj (zv7 HB.out) hb)
               clear hb ho50
               refine hK.out _ _ ⟨(ze BK212.out 0).trans rfl, (ze BK212.out 1).trans rfl, (ze BK212.out 2).trans rfl, (ze BK212.out 3).trans rfl⟩ (fun hHeld => ?_)
               clear hK K
               refine norm_ (a' := ?_) ?_ ?_
               rotate_left
               ·show Act.put _ (some 40) _ = _
                simp only [Act.put, zs1, zs2, zs3, i64_w, i32_w]
                rfl
               refine one_ (i := 4) (N := some 44) (zB 14 1919) rfl rfl (one_of HT_.out (by kernel_rfl)) (by decide) (fun K hK => ?_)
               refine Kd.R_append_rows_step k58 (w0 := w) w.heap.size (by rfl) (.tmp 40) (.tmp 43) 64 58 (.agg #[(.int .i64 0), (.int .i64 0), (.int .i64 0), (.int .i64 0)]) 32 rfl Try.underlying64 info58 rfl (by decide) (by omega) v221 y220 y223 _ _ _ (fun k_ => some k_ ≠ (.slice (some ad218) t215.length co29 : Value).ownBlock ∧ some k_ ≠ (v231 : Value).ownBlock ∧ k_ ≠ gb212) (fun _ => False) rfl rfl ?aO ?aR (fun _ _ h => h) (fun _ h => h.elim) ?aF ?aB ?aS ?aL ?_
               (case aR => repeat (first | exact (by repeat (first | (with_reducible exact HR226.out) | (with_reducible refine Kd.zr ?_ _) | (with_reducible refine Kd.zq ?_ _) | (with_reducible refine Kd.C_drew ?_) | exact HR226.out)) | (with_reducible refine Kd.zr ?_ _) | (with_reducible refine Kd.zq ?_ _) | (with_reducible refine Kd.C_drew ?_)))
               (case aB => exact (zv7 HB.out))
               (case aF => exact (fun k_ hk => ⟨Kd.fresh' (Kd.R_lt (by (with_reducible repeat (first | apply Kd.R_alloc | apply Kd.R_drewN | apply Kd.R_drew)); exact HO_8.out)) k_ hk, Kd.fresh' (Kd.R_lt (by (with_reducible repeat (first | apply Kd.R_alloc | apply Kd.R_drewN | apply Kd.R_drew)); exact HO232.out)) k_ hk, Kd.freshB (g := gb212) (o := .cells #[.int .i64 a2_0, .int .i64 a2_1, .int .i64 a2_2, .int .i64 a2_3] 58 (0, 0)) (zv8 BK212.out) k_ hk⟩))
               (case aO => exact (by (with_reducible repeat (first | apply Kd.R_alloc | apply Kd.R_drewN | apply Kd.R_drew)); exact Kd.R_mono HO222.out (fun _ hk => ⟨hk.1.1.2, ⟨hk.1.2, hk.2⟩⟩)))
               (case aS => exact (zk (zv7 HB.out)))
               (case aL => have := LMc38.out; omega)
               intro v228 w51 ho hb hg hat
               rw [← Ny227.out] at ho
               have n0_ := zp.mk (Kd.R_after (ok := (fun k_ => some k_ ≠ (v231 : Value).ownBlock ∧ k_ ≠ gb212)) (by (with_reducible repeat (first | apply Kd.R_alloc | apply Kd.R_drewN | apply Kd.R_drew)); exact Kd.R_mono HO_8.out (fun _ hk => ⟨⟨hk.1.2, hk.1.1⟩, hk.2⟩)) hg hat)
               have n1_ := zp.mk (blk_grown (g := gb211) (o := .cells #[.int .i64 a0_0, .slice A0_1 l0_1.length c0_1] 27 (0, 0)) (zv8 BK211.out) hg (Kd.R_ne HO222.out BK211.out (by decide)))
               have n2_ := zp.mk (blk_grown (g := gb212) (o := .cells #[.int .i64 a2_0, .int .i64 a2_1, .int .i64 a2_2, .int .i64 a2_3] 58 (0, 0)) (zv8 BK212.out) hg (Kd.R_away HO222.out (fun _ hk => hk.2)))
               have n3_ := zp.mk (Kd.R_after (ok := (fun k_ => some k_ ≠ (.slice (some ad218) t215.length co29 : Value).ownBlock ∧ k_ ≠ gb212)) (by (with_reducible repeat (first | apply Kd.R_alloc | apply Kd.R_drewN | apply Kd.R_drew)); exact Kd.R_mono HO232.out (fun _ hk => ⟨⟨hk.1.1.2, hk.1.2⟩, hk.2⟩)) hg hat)
               have n4_ := zp.mk (hb)
               have n5_ := zp.mk ((show Kd.C k58 w51 (some ad218) y223.length y223 from by rw [Ny223.out]; exact Kd.C_take (m := (x9_2 : Int).toNat) ((Kd.R_reads' (Kd.R_after (ok := (fun k_ => some k_ ≠ (v231 : Value).ownBlock ∧ k_ ≠ gb212)) (by (with_reducible repeat (first | apply Kd.R_alloc | apply Kd.R_drewN | apply Kd.R_drew)); exact Kd.R_mono HO_8.out (fun _ hk => ⟨⟨hk.1.2, hk.1.1⟩, hk.2⟩)) hg hat)).2.2) KL45.out))
               have n6_ := zp.mk ((show Kd.C k58 w51 A46 y236.length y236 from by rw [Ny236.out, KA46.out]; exact Kd.C_drop (m := (x9_2 : Int).toNat) (c := co29) ((Kd.R_reads' (Kd.R_after (ok := (fun k_ => some k_ ≠ (v231 : Value).ownBlock ∧ k_ ≠ gb212)) (by (with_reducible repeat (first | apply Kd.R_alloc | apply Kd.R_drewN | apply Kd.R_drew)); exact Kd.R_mono HO_8.out (fun _ hk => ⟨⟨hk.1.2, hk.1.1⟩, hk.2⟩)) hg hat)).2.2) KL46.out ((Kd.R_reads' (Kd.R_after (ok := (fun k_ => some k_ ≠ (v231 : Value).ownBlock ∧ k_ ≠ gb212)) (by (with_reducible repeat (first | apply Kd.R_alloc | apply Kd.R_drewN | apply Kd.R_drew)); exact Kd.R_mono HO_8.out (fun _ hk => ⟨⟨hk.1.2, hk.1.1⟩, hk.2⟩)) hg hat)).2.1)))
               have n7_ := zp.mk (ho)
               clear HO_8
               clear BK211
               clear BK212
               clear HO232
               clear HB
               clear HR226
               clear HR239
               clear HO222
               have HO_8 := n0_
               have BK211 := n1_
               have BK212 := n2_
               have HO232 := n3_
               have HB := n4_
               have HR226 := n5_
               have HR239 := n6_
               have HO229 := n7_
               clear n0_ n1_ n2_ n3_ n4_ n5_ n6_ n7_
               clear ho hb hg hat
               refine hK.out _ _ ⟨(ze BK212.out 0).trans rfl, (ze BK212.out 1).trans rfl, (ze BK212.out 2).trans rfl, (ze BK212.out 3).trans rfl⟩ (fun hHeld => ?_)
               clear hK K
               refine norm_ (a' := ?_) ?_ ?_
               rotate_left
               ·show Act.put _ (some 44) _ = _
                simp only [Act.put, zs1, zs2, zs3, i64_w, i32_w]
                rfl
               exact norm_ (by simp only [putAll, Act.put, zs1, zs2, zs3]) (hCont (v221, v228, v231) _ ⟨hHeld, (by (with_reducible repeat (first | apply Kd.R_alloc | apply Kd.R_drewN | apply Kd.R_drew)); exact Kd.R_mono HO229.out (fun _ hk => ⟨hk.2.1, ⟨hk.1, hk.2.2⟩⟩)), (by (with_reducible repeat (first | apply Kd.R_alloc | apply Kd.R_drewN | apply Kd.R_drew)); exact Kd.R_mono HO232.out (fun _ hk => ⟨hk.2, ⟨hk.1.1, hk.1.2⟩⟩)), (by (with_reducible repeat (first | apply Kd.R_alloc | apply Kd.R_drewN | apply Kd.R_drew)); exact Kd.R_mono HO_8.out (fun _ hk => ⟨hk.2, ⟨hk.1.1, hk.1.2⟩⟩)), (zv8 BK211.out), (zv8 BK212.out), (zv7 HB.out)⟩)
             rintro ⟨v221, v228, v231⟩ w52 ⟨hS_, h0_, h1_, h2_, h3_, h4_, h5_⟩
             have n0_ : zp (Kd.R k58 58 w52 w.heap.size (fun k_ => some k_ ≠ (v231 : Value).ownBlock ∧ some k_ ≠ (.slice (some ad218) t215.length co29 : Value).ownBlock ∧ k_ ≠ gb212) v228 y227) := ⟨h0_⟩
             have n1_ : zp (Kd.R k58 58 w52 w.heap.size (fun k_ => some k_ ≠ (v228 : Value).ownBlock ∧ some k_ ≠ (.slice (some ad218) t215.length co29 : Value).ownBlock ∧ k_ ≠ gb212) v231 y230) := ⟨h1_⟩
             have n2_ : zp (Kd.R k58 58 w52 w.heap.size (fun k_ => some k_ ≠ (v228 : Value).ownBlock ∧ some k_ ≠ (v231 : Value).ownBlock ∧ k_ ≠ gb212) (.slice (some ad218) t215.length co29) t215) := ⟨h2_⟩
             have n3_ : zp (w52.heap[gb211]? = some (.cells #[.int .i64 a0_0, .slice A0_1 l0_1.length c0_1] 27 (0, 0))) := ⟨h3_⟩
             have n4_ : zp (w52.heap[gb212]? = some (.cells #[.int .i64 a2_0, .int .i64 a2_1, .int .i64 a2_2, .int .i64 a2_3] 58 (0, 0))) := ⟨h4_⟩
             have n5_ : zp (Below w.heap.size w w52) := ⟨h5_⟩
             clear HO_8
             clear BK211
             clear BK212
             clear HB
             clear h0_ h1_ h2_ h3_ h4_ h5_
             have HO229 := n0_
             have HO232 := n1_
             have HO_8 := n2_
             have BK211 := n3_
             have BK212 := n4_
             have HB := n5_
             clear n0_ n1_ n2_ n3_ n4_ n5_
             have hHeld : w52.cell? ⟨gb212, 0, none⟩ = some (.int .i64 a2_0) ∧ w52.cell? ⟨gb212, 1, none⟩ = some (.int .i64 a2_1) ∧ w52.cell? ⟨gb212, 2, none⟩ = some (.int .i64 a2_2) ∧ w52.cell? ⟨gb212, 3, none⟩ = some (.int .i64 a2_3) := hS_
             obtain ⟨Ao54, co54, eo54⟩ := Kd.R_slice HO232.out
             (first | subst eo54 | (injection eo54 with f1_ f2_ f3_; have f4_ := f1_.symm; have f5_ := f3_.symm; clear f1_ f2_ f3_; subst f4_; subst f5_))
             refine norm_ (a' := ?_) ?_ ?_
             rotate_left
             ·simp only [putAll, Act.put, zs1, zs2, zs3]
              rfl
             refine one_ (i := 7) (N := some 47) (zB 14 2047) rfl rfl (one_of HT_.out (by kernel_rfl)) (by decide) (fun K hK => ?_)
             refine Kd.R_append_rows_step k58 (w0 := w) w.heap.size (by rfl) (.tmp 44) (.tmp 46) 64 58 (.agg #[(.int .i64 0), (.int .i64 0), (.int .i64 0), (.int .i64 0)]) 32 rfl Try.underlying64 info58 rfl (by decide) (by omega) v228 y227 y230 _ _ _ (fun k_ => some k_ ≠ (.slice (some ad218) t215.length co29 : Value).ownBlock ∧ some k_ ≠ (.slice Ao54 y230.length co54 : Value).ownBlock ∧ k_ ≠ gb212) (fun _ => False) rfl rfl ?aO ?aR (fun _ _ h => h) (fun _ h => h.elim) ?aF ?aB ?aS ?aL ?_
             (case aR => repeat (first | exact (Kd.R_reads' HO232.out).2.2 | (with_reducible refine Kd.zr ?_ _) | (with_reducible refine Kd.zq ?_ _) | (with_reducible refine Kd.C_drew ?_)))
             (case aB => exact (zv7 HB.out))
             (case aF => exact (fun k_ hk => ⟨Kd.fresh' (Kd.R_lt (by (with_reducible repeat (first | apply Kd.R_alloc | apply Kd.R_drewN | apply Kd.R_drew)); exact HO_8.out)) k_ hk, Kd.fresh' (Kd.R_lt (by (with_reducible repeat (first | apply Kd.R_alloc | apply Kd.R_drewN | apply Kd.R_drew)); exact HO232.out)) k_ hk, Kd.freshB (g := gb212) (o := .cells #[.int .i64 a2_0, .int .i64 a2_1, .int .i64 a2_2, .int .i64 a2_3] 58 (0, 0)) (zv8 BK212.out) k_ hk⟩))
             (case aO => exact (by (with_reducible repeat (first | apply Kd.R_alloc | apply Kd.R_drewN | apply Kd.R_drew)); exact Kd.R_mono HO229.out (fun _ hk => ⟨hk.2.1, ⟨hk.1, hk.2.2⟩⟩)))
             (case aS => exact (zk (zv7 HB.out)))
             (case aL => have := LMc39.out; omega)
             intro v234 w53 ho hb hg hat
             rw [← Ny233.out] at ho
             have n0_ := zp.mk (Kd.R_after (ok := (fun k_ => some k_ ≠ (.slice Ao54 y230.length co54 : Value).ownBlock ∧ k_ ≠ gb212)) (by (with_reducible repeat (first | apply Kd.R_alloc | apply Kd.R_drewN | apply Kd.R_drew)); exact Kd.R_mono HO_8.out (fun _ hk => ⟨⟨hk.2.1, hk.2.2⟩, hk.1⟩)) hg hat)
             have n1_ := zp.mk (blk_grown (g := gb211) (o := .cells #[.int .i64 a0_0, .slice A0_1 l0_1.length c0_1] 27 (0, 0)) (zv8 BK211.out) hg (Kd.R_ne HO229.out BK211.out (by decide)))
             have n2_ := zp.mk (blk_grown (g := gb212) (o := .cells #[.int .i64 a2_0, .int .i64 a2_1, .int .i64 a2_2, .int .i64 a2_3] 58 (0, 0)) (zv8 BK212.out) hg (Kd.R_away HO229.out (fun _ hk => hk.2.2)))
             have n3_ := zp.mk (Kd.R_after (ok := (fun k_ => some k_ ≠ (.slice (some ad218) t215.length co29 : Value).ownBlock ∧ k_ ≠ gb212)) (by (with_reducible repeat (first | apply Kd.R_alloc | apply Kd.R_drewN | apply Kd.R_drew)); exact Kd.R_mono HO232.out (fun _ hk => ⟨⟨hk.2.1, hk.2.2⟩, hk.1⟩)) hg hat)
             have n4_ := zp.mk (hb)
             have n5_ := zp.mk (ho)
             clear HO_8
             clear BK211
             clear BK212
             clear HO232
             clear HB
             clear HO229
             have HO_8 := n0_
             have BK211 := n1_
             have BK212 := n2_
             have HO232 := n3_
             have HB := n4_
             have HO235 := n5_
             clear n0_ n1_ n2_ n3_ n4_ n5_
             clear ho hb hg hat
             refine hK.out _ _ ⟨(ze BK212.out 0).trans rfl, (ze BK212.out 1).trans rfl, (ze BK212.out 2).trans rfl, (ze BK212.out 3).trans rfl⟩ (fun hHeld => ?_)
             clear hK K
             refine norm_ (a' := ?_) ?_ ?_
             rotate_left
             ·show Act.put _ (some 47) _ = _
              simp only [Act.put, zs1, zs2, zs3, i64_w, i32_w]
              rfl
             refine one_ (i := 11) (N := some 51) (zB 14 4095) rfl rfl (one_of HT_.out (by kernel_rfl)) (by decide) (fun K hK => ?_)
             refine Kd.R_append_rows_step k58 (w0 := w) w.heap.size (by rfl) (.tmp 47) (.tmp 50) 64 58 (.agg #[(.int .i64 0), (.int .i64 0), (.int .i64 0), (.int .i64 0)]) 32 rfl Try.underlying64 info58 rfl (by decide) (by omega) v234 y233 y236 _ _ _ (fun k_ => some k_ ≠ (.slice (some ad218) t215.length co29 : Value).ownBlock ∧ some k_ ≠ (.slice Ao54 y230.length co54 : Value).ownBlock ∧ k_ ≠ gb212) (fun _ => False) rfl rfl ?aO ?aR (fun _ _ h => h) (fun _ h => h.elim) ?aF ?aB ?aS ?aL ?_
             (case aR => repeat (first | exact (show Kd.C k58 _ A46 y236.length y236 from by rw [Ny236.out, KA46.out]; exact Kd.C_drop (m := (x9_2 : Int).toNat) (c := co29) (Kd.R_reads' HO_8.out).2.2 KL46.out (Kd.R_reads' HO_8.out).2.1) | (with_reducible refine Kd.zr ?_ _) | (with_reducible refine Kd.zq ?_ _) | (with_reducible refine Kd.C_drew ?_)))
             (case aB => exact (zv7 HB.out))
             (case aF => exact (fun k_ hk => ⟨Kd.fresh' (Kd.R_lt (by (with_reducible repeat (first | apply Kd.R_alloc | apply Kd.R_drewN | apply Kd.R_drew)); exact HO_8.out)) k_ hk, Kd.fresh' (Kd.R_lt (by (with_reducible repeat (first | apply Kd.R_alloc | apply Kd.R_drewN | apply Kd.R_drew)); exact HO232.out)) k_ hk, Kd.freshB (g := gb212) (o := .cells #[.int .i64 a2_0, .int .i64 a2_1, .int .i64 a2_2, .int .i64 a2_3] 58 (0, 0)) (zv8 BK212.out) k_ hk⟩))
             (case aO => exact HO235.out)
             (case aS => exact (zk (zv7 HB.out)))
             (case aL => have := LMt_.out; omega)
             intro vt_ wt_ ho hb hg hat
             have n0_ := zp.mk (blk_grown (g := gb212) (o := .cells #[.int .i64 a2_0, .int .i64 a2_1, .int .i64 a2_2, .int .i64 a2_3] 58 (0, 0)) (zv8 BK212.out) hg (Kd.R_away HO235.out (fun _ hk => hk.2.2)))
             clear HO_8 BK211 BK212 HB
             have HOt := zp.mk ho
             have HB := zp.mk hb
             have BK212 := n0_
             clear n0_ ho hb hg hat
             refine hK.out _ _ ⟨(ze BK212.out 0).trans rfl, (ze BK212.out 1).trans rfl, (ze BK212.out 2).trans rfl, (ze BK212.out 3).trans rfl⟩ (fun hHeld => ?_)
             clear hK K
             refine norm_ (a' := ?_) ?_ ?_
             rotate_left
             ·show Act.put _ (some 51) _ = _
              simp only [Act.put, zs1, zs2, zs3, i64_w, i32_w]
              rfl
             refine pure_ (i := 12) (N := some 6) (v := ?_) (a' := ?_) (zB 14 8191) rfl rfl (any_of HT_.out (by kernel_rfl)) (fun _ _ _ h => h) (Or.inl ⟨by rfl, ?_⟩) ?_ ?_
             rotate_left
             ·intro w'
              go_simp
              with_reducible rfl
             rotate_left
             ·simp only [Act.put, zs1, zs2, zs3, i64_w, i32_w]
              rfl
             refine pure_ (i := 13) (N := some 7) (v := ?_) (a' := ?_) (zB 14 16383) rfl rfl (any_of HT_.out (by kernel_rfl)) (fun _ _ _ h => h) (Or.inl ⟨by rfl, ?_⟩) ?_ ?_
             rotate_left
             ·intro w'
              go_simp
              with_reducible rfl
             rotate_left
             ·simp only [Act.put, zs1, zs2, zs3, i64_w, i32_w]
              rfl
             refine done_ (done_of HT_.out (by kernel_rfl)) ?_
             try go_wp2
             go_ret2
             exact ⟨_, by first | rfl | (simp [errW_none, errW_some] <;> rfl) | (simp [*, errW_none, errW_some] <;> rfl), by (with_reducible repeat (first | apply Kd.R_alloc | apply Kd.R_drewN | apply Kd.R_drew)); exact Kd.R_mono HOt.out (fun _ hk => trivial), zv7 HB.out⟩
            ·rw [if_neg c39] at H
             exact absurd H (by simp)
           ·rw [if_neg c38] at H
            exact absurd H (by simp)
          ·rw [if_neg c37] at H
           exact absurd H (by simp)
        ·rw [if_neg c31] at H
         exact absurd H (by simp)
       ·rw [if_neg c30] at H
        have c30b0 : decide (x9_2 < (t215.length : Int)) = false := decide_eq_false c30
        clear c30
        obtain ⟨y240, hy240⟩ : ∃ y_ : List (S58), y_ = (([] : List (S58))) := ⟨_, rfl⟩
        replace H : (if 0 ≤ x9_2 then (if x9_2 ≤ (t215.length : Int) then ((some (t215.take (x9_2 : Int).toNat : List (S58))).bind fun y243 => (if y240.length + y243.length < 4398046511104 then ((some (y240 ++ y243 : List (S58))).bind fun y247 => ((some (([(⟨a2_0, a2_1, a2_2, a2_3⟩ : S58)] : List (S58)) : List (S58))).bind fun y250 => (if y247.length + y250.length < 4398046511104 then (spec_PolicySet.t (y247 ++ y250) (t215.drop (x9_2 : Int).toNat)) else (none)))) else (none))) else (none)) else (none)) = some (r1, r2) := by first | (rw [hy240]; with_reducible exact H) | (have H2_ := (Option.bind_some _ _).symm.trans H; rw [hy240]; with_reducible exact H2_) | (have H2_ := (Option.bind_some _ _).symm.trans H; with_reducible exact H2_) | with_reducible exact H | (rw [hy240]; exact H) | exact H
        have Ny240 := zp.mk hy240
        clear hy240
        by_cases c55 : 0 ≤ x9_2
        ·rw [if_pos c55] at H
         have c55b0 := eq_true c55
         have c55b1 : decide (0 ≤ x9_2) = true := decide_eq_true c55
         clear c55
         by_cases c56 : x9_2 ≤ (t215.length : Int)
         ·rw [if_pos c56] at H
          have c56b0 := eq_true c56
          have c56b1 : decide (x9_2 ≤ (t215.length : Int)) = true := decide_eq_true c56
          clear c56
          obtain ⟨y243, hy243⟩ : ∃ y_ : List (S58), y_ = (t215.take (x9_2 : Int).toNat) := ⟨_, rfl⟩
          replace H : (if y240.length + y243.length < 4398046511104 then ((some (y240 ++ y243 : List (S58))).bind fun y247 => ((some (([(⟨a2_0, a2_1, a2_2, a2_3⟩ : S58)] : List (S58)) : List (S58))).bind fun y250 => (if y247.length + y250.length < 4398046511104 then (spec_PolicySet.t (y247 ++ y250) (t215.drop (x9_2 : Int).toNat)) else (none)))) else (none)) = some (r1, r2) := by first | (rw [hy243]; with_reducible exact H) | (have H2_ := (Option.bind_some _ _).symm.trans H; rw [hy243]; with_reducible exact H2_) | (have H2_ := (Option.bind_some _ _).symm.trans H; with_reducible exact H2_) | with_reducible exact H | (rw [hy243]; exact H) | exact H
          have Ny243 := zp.mk hy243
          clear hy243
          by_cases c57 : y240.length + y243.length < 4398046511104
          ·rw [if_pos c57] at H
           have LMc57 := zp.mk c57
           clear c57
           obtain ⟨y247, hy247⟩ : ∃ y_ : List (S58), y_ = (y240 ++ y243) := ⟨_, rfl⟩
           replace H : ((some (([(⟨a2_0, a2_1, a2_2, a2_3⟩ : S58)] : List (S58)) : List (S58))).bind fun y250 => (if y247.length + y250.length < 4398046511104 then (spec_PolicySet.t (y247 ++ y250) (t215.drop (x9_2 : Int).toNat)) else (none))) = some (r1, r2) := by first | (rw [hy247]; with_reducible exact H) | (have H2_ := (Option.bind_some _ _).symm.trans H; rw [hy247]; with_reducible exact H2_) | (have H2_ := (Option.bind_some _ _).symm.trans H; with_reducible exact H2_) | with_reducible exact H | (rw [hy247]; exact H) | exact H
           have Ny247 := zp.mk hy247
           clear hy247
           obtain ⟨y250, hy250⟩ : ∃ y_ : List (S58), y_ = (([(⟨a2_0, a2_1, a2_2, a2_3⟩ : S58)] : List (S58))) := ⟨_, rfl⟩
           replace H : (if y247.length + y250.length < 4398046511104 then (spec_PolicySet.t (y247 ++ y250) (t215.drop (x9_2 : Int).toNat)) else (none)) = some (r1, r2) := by first | (rw [hy250]; with_reducible exact H) | (have H2_ := (Option.bind_some _ _).symm.trans H; rw [hy250]; with_reducible exact H2_) | (have H2_ := (Option.bind_some _ _).symm.trans H; with_reducible exact H2_) | with_reducible exact H | (rw [hy250]; exact H) | exact H
           have Ny250 := zp.mk hy250
           clear hy250
           by_cases c58 : y247.length + y250.length < 4398046511104
           ·rw [if_pos c58] at H
            have LMc58 := zp.mk c58
            clear c58
            obtain ⟨y253, hy253⟩ : ∃ y_ : List (S58), y_ = (y247 ++ y250) := ⟨_, rfl⟩
            replace H : spec_PolicySet.t y253 (t215.drop (x9_2 : Int).toNat) = some (r1, r2) := by first | (rw [hy253]; with_reducible exact H) | (have H2_ := (Option.bind_some _ _).symm.trans H; rw [hy253]; with_reducible exact H2_) | (have H2_ := (Option.bind_some _ _).symm.trans H; with_reducible exact H2_) | with_reducible exact H | (rw [hy253]; exact H) | exact H
            have Ny253 := zp.mk hy253
            clear hy253
            have c59b0 := eq_true (of_decide_eq_true (by first | (with_reducible assumption) | assumption) : 0 ≤ x9_2)
            have c60b0 := eq_true (of_decide_eq_true (by first | (with_reducible assumption) | assumption) : x9_2 ≤ (t215.length : Int))
            obtain ⟨y256, hy256⟩ : ∃ y_ : List (S58), y_ = (t215.drop (x9_2 : Int).toNat) := ⟨_, rfl⟩
            replace H : spec_PolicySet.t y253 y256 = some (r1, r2) := by first | (rw [hy256]; with_reducible exact H) | (have H2_ := (Option.bind_some _ _).symm.trans H; rw [hy256]; with_reducible exact H2_) | (have H2_ := (Option.bind_some _ _).symm.trans H; with_reducible exact H2_) | with_reducible exact H | (rw [hy256]; exact H) | exact H
            have Ny256 := zp.mk hy256
            clear hy256
            obtain ⟨hl_, rfl, rfl⟩ := spec_PolicySet.t_some H
            have LMt_ := zp.mk hl_
            clear hl_
            try go_wp2
            replace HO_8 := zp.mk (Kd.R_drew HO_8.out)
            replace BK211 := zp.mk (zi BK211.out)
            replace BK212 := zp.mk (zi BK212.out)
            replace HB := zp.mk (zb HB.out)
            refine start_ (n := 12) (S := fun w' => True) (ds := []) (zB 12 0) (by kernel_rfl) rfl rfl trivial (fun hHeld => ?_); refine with_tabW spec_PolicySet.tab7 spec_PolicySet.bits7 (fun HT_ HW_ => ?_)
            generalize wr.drew = w61 at HO_8 BK211 BK212 HB hHeld ⊢
            refine pure_ (i := 0) (N := some 26) (v := ?_) (a' := ?_) (zB 12 1) rfl rfl (any_of HT_.out (by kernel_rfl)) (fun _ _ _ h => h) (Or.inl ⟨by rfl, ?_⟩) ?_ ?_
            rotate_left
            ·intro w'
             go_simp
             with_reducible rfl
            rotate_left
            ·simp only [Act.put, zs1, zs2, zs3, i64_w, i32_w]
             rfl
            refine pure_ (i := 1) (N := some 27) (v := ?_) (a' := ?_) (zB 12 3) rfl rfl (any_of HT_.out (by kernel_rfl)) (fun _ _ _ h => h) (Or.inl ⟨by rfl, ?_⟩) ?_ ?_
            rotate_left
            ·intro w'
             go_simp
             with_reducible rfl
            rotate_left
            ·simp only [Act.put, zs1, zs2, zs3, i64_w, i32_w]
             rfl
            refine pure_ (i := 2) (N := some 28) (v := ?_) (a' := ?_) (zB 12 7) rfl rfl (any_of HT_.out (by kernel_rfl)) (fun _ _ _ h => h) (Or.inl ⟨by rfl, ?_⟩) ?_ ?_
            rotate_left
            ·intro w'
             go_simp
             with_reducible rfl
            rotate_left
            ·simp only [Act.put, zs1, zs2, zs3, i64_w, i32_w]
             rfl
            refine pure_ (i := 3) (N := some 29) (v := ?_) (a' := ?_) (zB 12 15) rfl rfl (any_of HT_.out (by kernel_rfl)) (fun _ _ _ h => h) (Or.inl ⟨by rfl, ?_⟩) ?_ ?_
            rotate_left
            ·intro w'
             go_simp
             with_reducible rfl
            rotate_left
            ·simp only [Act.put, zs1, zs2, zs3, i64_w, i32_w]
             rfl
            refine pure_ (i := 4) (N := some 30) (v := ?_) (a' := ?_) (zB 12 31) rfl rfl (any_of HT_.out (by kernel_rfl)) (fun _ _ _ h => h) (Or.inl ⟨by rfl, ?_⟩) ?_ ?_
            rotate_left
            ·intro w'
             go_simp
             with_reducible rfl
            rotate_left
            ·simp only [Act.put, zs1, zs2, zs3, i64_w, i32_w]
             rfl
            refine pure_ (i := 5) (N := some 31) (v := undef) (a' := ?_) (zB 12 63) rfl rfl (any_of HT_.out (by kernel_rfl)) (fun _ _ _ h => h) (Or.inr ⟨by rfl, rfl⟩) ?_ ?_
            rotate_left
            ·simp only [Act.put, zs1, zs2, zs3, i64_w, i32_w]
             rfl
            refine pure_ (i := 6) (N := some 32) (v := undef) (a' := ?_) (zB 12 127) rfl rfl (any_of HT_.out (by kernel_rfl)) (fun _ _ _ h => h) (Or.inr ⟨by rfl, rfl⟩) ?_ ?_
            rotate_left
            ·simp only [Act.put, zs1, zs2, zs3, i64_w, i32_w]
             rfl
            refine pure_ (i := 7) (N := some 33) (v := undef) (a' := ?_) (zB 12 255) rfl rfl (any_of HT_.out (by kernel_rfl)) (fun _ _ _ h => h) (Or.inr ⟨by rfl, rfl⟩) ?_ ?_
            rotate_left
            ·simp only [Act.put, zs1, zs2, zs3, i64_w, i32_w]
             rfl
            refine pure_ (i := 8) (N := some 34) (v := undef) (a' := ?_) (zB 12 511) rfl rfl (any_of HT_.out (by kernel_rfl)) (fun _ _ _ h => h) (Or.inr ⟨by rfl, rfl⟩) ?_ ?_
            rotate_left
            ·simp only [Act.put, zs1, zs2, zs3, i64_w, i32_w]
             rfl
            refine pure_ (i := 9) (N := some 35) (v := undef) (a' := ?_) (zB 12 1023) rfl rfl (any_of HT_.out (by kernel_rfl)) (fun _ _ _ h => h) (Or.inr ⟨by rfl, rfl⟩) ?_ ?_
            rotate_left
            ·simp only [Act.put, zs1, zs2, zs3, i64_w, i32_w]
             rfl
            refine pure_ (i := 10) (N := some 36) (v := undef) (a' := ?_) (zB 12 2047) rfl rfl (any_of HT_.out (by kernel_rfl)) (fun _ _ _ h => h) (Or.inr ⟨by rfl, rfl⟩) ?_ ?_
            rotate_left
            ·simp only [Act.put, zs1, zs2, zs3, i64_w, i32_w]
             rfl
            refine pure_ (i := 11) (N := some 37) (v := ?_) (a' := ?_) (zB 12 4095) rfl rfl (any_of HT_.out (by kernel_rfl)) (fun _ _ _ h => h) (Or.inl ⟨by rfl, ?_⟩) ?_ ?_
            rotate_left
            ·intro w'
             go_simp
             with_reducible rfl
            rotate_left
            ·simp only [Act.put, zs1, zs2, zs3, i64_w, i32_w]
             rfl
            refine done_ (done_of HT_.out (by kernel_rfl)) ?_
            try go_wp2
            replace HO_8 := zp.mk (Kd.R_drew HO_8.out)
            replace BK211 := zp.mk (zi BK211.out)
            replace BK212 := zp.mk (zi BK212.out)
            replace HB := zp.mk (zb HB.out)
            have q63 : (x9_2 : Int) ≤ ((t215.length : Int) : Int) := of_decide_eq_true (by first | (with_reducible assumption) | assumption)
            obtain ⟨i063, hi063, _, hsz63, _⟩ := info_parts info58
            have hroom63 : t215.length ≤ co29 := (Kd.R_reads' HO_8.out).2.1
            have hC63 : Kd.C k58 _ Ao29 t215.length t215 := (Kd.R_reads' HO_8.out).2.2
            have hcut63 := cut_to (P := Try.prog) 64 58 .i64 Try.underlying64 hi063 Ao29 t215.length co29 x9_2 (of_decide_eq_true (by first | (with_reducible assumption) | assumption)) q63 hroom63
            have hr63 := Kd.C_take (m := (x9_2 : Int).toNat) hC63 (by omega)
            have hy63 : y243.length = (x9_2 : Int).toNat := (by rw [Ny243.out, List.length_take]; omega)
            rw [← Ny243.out] at hr63
            rw [← hy63] at hcut63
            have HR246 := zp.mk hr63
            have HC246 := zp.mk (show y243.length ≤ co29 from by omega)
            clear hr63 hC63 hroom63 hi063 hsz63
            have KY63 := zp.mk hy63
            clear hy63
            have KL63 := zp.mk (show (x9_2 : Int).toNat ≤ t215.length from by omega)
            replace q63 := eq_true q63
            have q64 : (x9_2 : Int) ≤ ((t215.length : Int) : Int) := of_decide_eq_true (by first | (with_reducible assumption) | assumption)
            obtain ⟨i064, hi064, _, hsz64, _⟩ := info_parts info58
            have hroom64 : t215.length ≤ co29 := (Kd.R_reads' HO_8.out).2.1
            have hC64 : Kd.C k58 _ Ao29 t215.length t215 := (Kd.R_reads' HO_8.out).2.2
            have q064 : (0 : Int) ≤ (x9_2 : Int) := of_decide_eq_true (by first | (with_reducible assumption) | assumption)
            have hcut64 := cut_from (P := Try.prog) 64 58 .i64 Try.underlying64 hi064 4 hsz64 Ao29 t215.length co29 x9_2 q064 q64
            have hr64 := Kd.C_drop (m := (x9_2 : Int).toNat) (c := co29) hC64 (by omega) hroom64
            obtain ⟨A64, hA64⟩ : ∃ A1, A1 = (if co29 = (x9_2 : Int).toNat then Ao29 else (Ao29 : Option Addr).map (·.add ((x9_2 : Int).toNat * 4))) := ⟨_, rfl⟩
            obtain ⟨c64, hc64⟩ : ∃ c1, c1 = co29 - (x9_2 : Int).toNat := ⟨_, rfl⟩
            have hy64 : y256.length = t215.length - (x9_2 : Int).toNat := (by rw [Ny256.out, List.length_drop] <;> omega)
            rw [show (t215).drop (x9_2 : Int).toNat = y256 from Ny256.out.symm] at hr64
            replace hr64 : Kd.C k58 _ A64 y256.length y256 := (by rw [hA64]; exact hr64)
            rw [← hy64, ← hA64, ← hc64] at hcut64
            have HR259 := zp.mk hr64
            have HC259 := zp.mk (show y256.length ≤ c64 from by rw [hy64, hc64]; exact Nat.sub_le_sub_right hroom64 _)
            clear hr64 hC64 hroom64 hi064 hsz64 hc64
            have KY64 := zp.mk hy64
            have KA64 := zp.mk hA64
            clear hy64 hA64
            have KL64 := zp.mk (show (x9_2 : Int).toNat ≤ t215.length from by omega)
            replace q64 := eq_true q64
            refine start_ (n := 14) (S := fun w' => w'.cell? ⟨gb212, 0, none⟩ = some (.int .i64 a2_0) ∧ w'.cell? ⟨gb212, 1, none⟩ = some (.int .i64 a2_1) ∧ w'.cell? ⟨gb212, 2, none⟩ = some (.int .i64 a2_2) ∧ w'.cell? ⟨gb212, 3, none⟩ = some (.int .i64 a2_3)) (ds := []) (zB 14 0) (by kernel_rfl) rfl rfl ⟨(ze BK212.out 0).trans rfl, (ze BK212.out 1).trans rfl, (ze BK212.out 2).trans rfl, (ze BK212.out 3).trans rfl⟩ (fun hHeld => ?_); refine with_tabW spec_PolicySet.tab9 spec_PolicySet.bits9 (fun HT_ HW_ => ?_)
            generalize w61.drew = w62 at HO_8 BK211 BK212 HB HR246 HR259 hHeld ⊢
            refine pure_ (i := 1) (N := some 41) (v := ?_) (a' := ?_) (zB 14 2) rfl rfl (any_of HT_.out (by kernel_rfl)) (fun _ _ _ h => h) (Or.inl ⟨by rfl, ?_⟩) ?_ ?_
            rotate_left
            ·intro w'
             go_simp
             with_reducible rfl
            rotate_left
            ·simp only [Act.put, zs1, zs2, zs3, i64_w, i32_w]
             rfl
            refine pure_ (i := 2) (N := some 42) (v := ?_) (a' := ?_) (zB 14 6) rfl rfl (any_of HT_.out (by kernel_rfl)) (fun _ _ _ h => h) (Or.inl ⟨by rfl, ?_⟩) ?_ ?_
            rotate_left
            ·intro w'
             go_simp
             with_reducible rfl
            rotate_left
            ·simp only [Act.put, zs1, zs2, zs3, i64_w, i32_w]
             rfl
            refine pure_ (i := 3) (N := some 43) (v := ?_) (a' := ?_) (zB 14 14) rfl rfl (any_of HT_.out (by kernel_rfl)) (fun _ _ _ h => h) (Or.inl ⟨by rfl, ?_⟩) ?_ ?_
            rotate_left
            ·intro w'
             go_simp
             with_reducible rfl
            rotate_left
            ·simp only [Act.put, zs1, zs2, zs3, i64_w, i32_w]
             rfl
            refine pure_ (i := 8) (N := some 48) (v := ?_) (a' := ?_) (zB 14 270) rfl rfl (any_of HT_.out (by kernel_rfl)) (fun _ _ _ h => h) (Or.inl ⟨by rfl, ?_⟩) ?_ ?_
            rotate_left
            ·intro w'
             go_simp
             with_reducible rfl
            rotate_left
            ·simp only [Act.put, zs1, zs2, zs3, i64_w, i32_w]
             rfl
            refine pure_ (i := 9) (N := some 49) (v := ?_) (a' := ?_) (zB 14 782) rfl rfl (any_of HT_.out (by kernel_rfl)) (fun _ _ _ h => h) (Or.inl ⟨by rfl, ?_⟩) ?_ ?_
            rotate_left
            ·intro w'
             go_simp
             with_reducible rfl
            rotate_left
            ·simp only [Act.put, zs1, zs2, zs3, i64_w, i32_w]
             rfl
            refine pure_ (i := 10) (N := some 50) (v := ?_) (a' := ?_) (zB 14 1806) rfl rfl (any_of HT_.out (by kernel_rfl)) (fun _ _ _ h => h) (Or.inl ⟨by rfl, ?_⟩) ?_ ?_
            rotate_left
            ·intro w'
             go_simp
             with_reducible rfl
            rotate_left
            ·simp only [Act.put, zs1, zs2, zs3, i64_w, i32_w]
             rfl
            refine take_ (i := 5) (N := some 45) (v := ?_) (a' := ?_) (zB 14 1838) rfl rfl (take_ofW HT_.out HW_.out (by kernel_rfl)) (fun _ _ _ h => h) (Or.inl ⟨by rfl, ?_⟩) hHeld ?_ ?_
            rotate_left
            ·rintro w' ⟨s0, s1, s2, s3⟩
             go_simp
             with_reducible rfl
            rotate_left
            ·simp only [Act.put, zs1, zs2, zs3, i64_w, i32_w]
             rfl
            refine join_ (σ := Value × Value × Value) 4 (zB 14 1919) (fun s_ => [(40, s_.1), (44, s_.2.1), (46, s_.2.2)]) (fun s_ w' => (w'.cell? ⟨gb212, 0, none⟩ = some (.int .i64 a2_0) ∧ w'.cell? ⟨gb212, 1, none⟩ = some (.int .i64 a2_1) ∧ w'.cell? ⟨gb212, 2, none⟩ = some (.int .i64 a2_2) ∧ w'.cell? ⟨gb212, 3, none⟩ = some (.int .i64 a2_3)) ∧ (Kd.R k58 58 w' w.heap.size (fun k_ => some k_ ≠ (s_.2.2 : Value).ownBlock ∧ some k_ ≠ (.slice Ao29 t215.length co29 : Value).ownBlock ∧ k_ ≠ gb212) s_.2.1 y247) ∧ (Kd.R k58 58 w' w.heap.size (fun k_ => some k_ ≠ (s_.2.1 : Value).ownBlock ∧ some k_ ≠ (.slice Ao29 t215.length co29 : Value).ownBlock ∧ k_ ≠ gb212) s_.2.2 y250) ∧ (Kd.R k58 58 w' w.heap.size (fun k_ => some k_ ≠ (s_.2.1 : Value).ownBlock ∧ some k_ ≠ (s_.2.2 : Value).ownBlock ∧ k_ ≠ gb212) (.slice Ao29 t215.length co29) t215) ∧ (w'.heap[gb211]? = some (.cells #[.int .i64 a0_0, .slice A0_1 l0_1.length c0_1] 27 (0, 0))) ∧ (w'.heap[gb212]? = some (.cells #[.int .i64 a2_0, .int .i64 a2_1, .int .i64 a2_2, .int .i64 a2_3] 58 (0, 0))) ∧ (Below w.heap.size w w')) ?_ ?_
            rotate_left
            ·intro hCont
             refine two_ (i := 0) (j := 6) (Ni := some 40) (Nj := some 46) (zB 14 1839) (zB 14 1902) rfl rfl rfl rfl (two_of HT_.out (by kernel_rfl)) (by decide) (by decide) (fun K hK => ?_) (fun K hK => ?_)
             ·skip
              refine Kd.R_lit_step k58 _ 58 ?hg (N := 40) ?hd (xs := ([] : List (S58))) (inner := []) (ok := fun _ => True) (okp := fun _ => True) ?hr ?hp (fun _ hk => hk) trivial (Below.refl _ _) (Nat.le_refl _) (by simp) ?_; (case hd => rfl); (case hg => rfl); (case hr => first | (go_simp; done) | (go_simp; rfl)); (case hp => exact (Reps.none _ _))
              intro v241 w65 ho66 hb hg_ hnew_
              clear hg_ hnew_
              (first | rw [← Ny240.out] at ho66 | (simp only [Int.reduceToNat] at ho66; rw [← Ny240.out] at ho66))
              have HO242 := zp.mk (Kd.R_lower (Kd.R_newB (Kd.R_new' ho66 (Kd.R_lt (by (with_reducible repeat (first | apply Kd.R_alloc | apply Kd.R_drewN | apply Kd.R_drew)); exact HO_8.out))) (g := gb212) (o := .cells #[.int .i64 a2_0, .int .i64 a2_1, .int .i64 a2_2, .int .i64 a2_3] 58 (0, 0)) (zv8 BK212.out)) (zk (zv7 HB.out)))
              replace HO_8 := zp.mk (Kd.R_elder' (by (with_reducible repeat (first | apply Kd.R_alloc | apply Kd.R_drewN | apply Kd.R_drew)); exact HO_8.out) (Kd.R_base ho66) hb)
              replace BK211 := zp.mk (zl (zv8 BK211.out) hb)
              replace BK212 := zp.mk (zl (zv8 BK212.out) hb)
              replace HR246 := zp.mk (Kd.zt (by repeat (first | (with_reducible exact HR246.out) | (with_reducible refine Kd.zr ?_ _) | (with_reducible refine Kd.zq ?_ _) | (with_reducible refine Kd.C_drew ?_) | exact HR246.out)) hb)
              replace HR259 := zp.mk (Kd.zt (by repeat (first | (with_reducible exact HR259.out) | (with_reducible refine Kd.zr ?_ _) | (with_reducible refine Kd.zq ?_ _) | (with_reducible refine Kd.C_drew ?_) | exact HR259.out)) hb)
              replace HB := zp.mk (zj (zv7 HB.out) hb)
              clear hb ho66
              refine hK.out _ _ ⟨(ze BK212.out 0).trans rfl, (ze BK212.out 1).trans rfl, (ze BK212.out 2).trans rfl, (ze BK212.out 3).trans rfl⟩ (fun hHeld => ?_)
              clear hK K
              refine norm_ (a' := ?_) ?_ ?_
              rotate_left
              ·show Act.put _ (some 40) _ = _
               simp only [Act.put, zs1, zs2, zs3, i64_w, i32_w]
               rfl
              refine two_ (i := 4) (j := 6) (Ni := some 44) (Nj := some 46) (zB 14 1855) (zB 14 1903) rfl rfl rfl rfl (two_of HT_.out (by kernel_rfl)) (by decide) (by decide) (fun K hK => ?_) (fun K hK => ?_)
              ·skip
               refine Kd.R_append_rows_step k58 (w0 := w) w.heap.size (by rfl) (.tmp 40) (.tmp 43) 64 58 (.agg #[(.int .i64 0), (.int .i64 0), (.int .i64 0), (.int .i64 0)]) 32 rfl Try.underlying64 info58 rfl (by decide) (by omega) v241 y240 y243 _ _ _ (fun k_ => some k_ ≠ (.slice Ao29 t215.length co29 : Value).ownBlock ∧ k_ ≠ gb212) (fun _ => False) rfl rfl ?aO ?aR (fun _ _ h => h) (fun _ h => h.elim) ?aF ?aB ?aS ?aL ?_
               (case aR => repeat (first | exact (by repeat (first | (with_reducible exact HR246.out) | (with_reducible refine Kd.zr ?_ _) | (with_reducible refine Kd.zq ?_ _) | (with_reducible refine Kd.C_drew ?_) | exact HR246.out)) | (with_reducible refine Kd.zr ?_ _) | (with_reducible refine Kd.zq ?_ _) | (with_reducible refine Kd.C_drew ?_)))
               (case aB => exact (zv7 HB.out))
               (case aF => exact (fun k_ hk => ⟨Kd.fresh' (Kd.R_lt (by (with_reducible repeat (first | apply Kd.R_alloc | apply Kd.R_drewN | apply Kd.R_drew)); exact HO_8.out)) k_ hk, Kd.freshB (g := gb212) (o := .cells #[.int .i64 a2_0, .int .i64 a2_1, .int .i64 a2_2, .int .i64 a2_3] 58 (0, 0)) (zv8 BK212.out) k_ hk⟩))
               (case aO => exact (by (with_reducible repeat (first | apply Kd.R_alloc | apply Kd.R_drewN | apply Kd.R_drew)); exact Kd.R_mono HO242.out (fun _ hk => ⟨hk.1.2, hk.2⟩)))
               (case aS => exact (zk (zv7 HB.out)))
               (case aL => have := LMc57.out; omega)
               intro v248 w67 ho hb hg hat
               rw [← Ny247.out] at ho
               have n0_ := zp.mk (Kd.R_after (ok := (fun k_ => k_ ≠ gb212)) (by (with_reducible repeat (first | apply Kd.R_alloc | apply Kd.R_drewN | apply Kd.R_drew)); exact HO_8.out) hg hat)
               have n1_ := zp.mk (blk_grown (g := gb211) (o := .cells #[.int .i64 a0_0, .slice A0_1 l0_1.length c0_1] 27 (0, 0)) (zv8 BK211.out) hg (Kd.R_ne HO242.out BK211.out (by decide)))
               have n2_ := zp.mk (blk_grown (g := gb212) (o := .cells #[.int .i64 a2_0, .int .i64 a2_1, .int .i64 a2_2, .int .i64 a2_3] 58 (0, 0)) (zv8 BK212.out) hg (Kd.R_away HO242.out (fun _ hk => hk.2)))
               have n3_ := zp.mk (hb)
               have n4_ := zp.mk ((show Kd.C k58 w67 Ao29 y243.length y243 from by rw [Ny243.out]; exact Kd.C_take (m := (x9_2 : Int).toNat) ((Kd.R_reads' (Kd.R_after (ok := (fun k_ => k_ ≠ gb212)) (by (with_reducible repeat (first | apply Kd.R_alloc | apply Kd.R_drewN | apply Kd.R_drew)); exact HO_8.out) hg hat)).2.2) KL63.out))
               have n5_ := zp.mk ((show Kd.C k58 w67 A64 y256.length y256 from by rw [Ny256.out, KA64.out]; exact Kd.C_drop (m := (x9_2 : Int).toNat) (c := co29) ((Kd.R_reads' (Kd.R_after (ok := (fun k_ => k_ ≠ gb212)) (by (with_reducible repeat (first | apply Kd.R_alloc | apply Kd.R_drewN | apply Kd.R_drew)); exact HO_8.out) hg hat)).2.2) KL64.out ((Kd.R_reads' (Kd.R_after (ok := (fun k_ => k_ ≠ gb212)) (by (with_reducible repeat (first | apply Kd.R_alloc | apply Kd.R_drewN | apply Kd.R_drew)); exact HO_8.out) hg hat)).2.1)))
               have n6_ := zp.mk (ho)
               clear HO_8
               clear BK211
               clear BK212
               clear HB
               clear HR246
               clear HR259
               clear HO242
               have HO_8 := n0_
               have BK211 := n1_
               have BK212 := n2_
               have HB := n3_
               have HR246 := n4_
               have HR259 := n5_
               have HO249 := n6_
               clear n0_ n1_ n2_ n3_ n4_ n5_ n6_
               clear ho hb hg hat
               refine hK.out _ _ ⟨(ze BK212.out 0).trans rfl, (ze BK212.out 1).trans rfl, (ze BK212.out 2).trans rfl, (ze BK212.out 3).trans rfl⟩ (fun hHeld => ?_)
               clear hK K
               refine norm_ (a' := ?_) ?_ ?_
               rotate_left
               ·show Act.put _ (some 44) _ = _
                simp only [Act.put, zs1, zs2, zs3, i64_w, i32_w]
                rfl
               refine one_ (i := 6) (N := some 46) (zB 14 1919) rfl rfl (one_of HT_.out (by kernel_rfl)) (by decide) (fun K hK => ?_)
               refine Kd.R_lit_step k58 _ 58 ?hg (N := 46) ?hd (xs := ([(⟨a2_0, a2_1, a2_2, a2_3⟩ : S58)] : List (S58))) (inner := [.int .i64 a2_0, .int .i64 a2_1, .int .i64 a2_2, .int .i64 a2_3]) (ok := fun _ => True) (okp := fun _ => True) ?hr ?hp (fun _ hk => hk) trivial (Below.refl _ _) (Nat.le_refl _) (by simp) ?_; (case hd => rfl); (case hg => rfl); (case hr => first | (go_simp; done) | (go_simp; rfl)); (case hp => exact (Reps.c4 (show Kd.M k58 _ _ _ (⟨a2_0, a2_1, a2_2, a2_3⟩ : S58) [.int .i64 a2_0, .int .i64 a2_1, .int .i64 a2_2, .int .i64 a2_3] from (k58_mkM _ _ _ (⟨a2_0, a2_1, a2_2, a2_3⟩ : S58) )) (Reps.none _ _)))
               intro v251 w68 ho69 hb hg_ hnew_
               clear hg_ hnew_
               (first | rw [← Ny250.out] at ho69 | (simp only [Int.reduceToNat] at ho69; rw [← Ny250.out] at ho69))
               have HO252 := zp.mk (Kd.R_lower (Kd.R_newB (Kd.R_new' (Kd.R_new' ho69 (Kd.R_lt (by (with_reducible repeat (first | apply Kd.R_alloc | apply Kd.R_drewN | apply Kd.R_drew)); exact HO_8.out))) (Kd.R_lt (by (with_reducible repeat (first | apply Kd.R_alloc | apply Kd.R_drewN | apply Kd.R_drew)); exact HO249.out))) (g := gb212) (o := .cells #[.int .i64 a2_0, .int .i64 a2_1, .int .i64 a2_2, .int .i64 a2_3] 58 (0, 0)) (zv8 BK212.out)) (zk (zv7 HB.out)))
               replace HO_8 := zp.mk (Kd.R_elder' (by (with_reducible repeat (first | apply Kd.R_alloc | apply Kd.R_drewN | apply Kd.R_drew)); exact HO_8.out) (Kd.R_base ho69) hb)
               replace HO249 := zp.mk (Kd.R_elder' (by (with_reducible repeat (first | apply Kd.R_alloc | apply Kd.R_drewN | apply Kd.R_drew)); exact HO249.out) (Kd.R_base ho69) hb)
               replace BK211 := zp.mk (zl (zv8 BK211.out) hb)
               replace BK212 := zp.mk (zl (zv8 BK212.out) hb)
               replace HR246 := zp.mk (Kd.zt (by repeat (first | (with_reducible exact HR246.out) | (with_reducible refine Kd.zr ?_ _) | (with_reducible refine Kd.zq ?_ _) | (with_reducible refine Kd.C_drew ?_) | exact HR246.out)) hb)
               replace HR259 := zp.mk (Kd.zt (by repeat (first | (with_reducible exact HR259.out) | (with_reducible refine Kd.zr ?_ _) | (with_reducible refine Kd.zq ?_ _) | (with_reducible refine Kd.C_drew ?_) | exact HR259.out)) hb)
               replace HB := zp.mk (zj (zv7 HB.out) hb)
               clear hb ho69
               refine hK.out _ _ ⟨(ze BK212.out 0).trans rfl, (ze BK212.out 1).trans rfl, (ze BK212.out 2).trans rfl, (ze BK212.out 3).trans rfl⟩ (fun hHeld => ?_)
               clear hK K
               refine norm_ (a' := ?_) ?_ ?_
               rotate_left
               ·show Act.put _ (some 46) _ = _
                simp only [Act.put, zs1, zs2, zs3, i64_w, i32_w]
                rfl
               exact norm_ (by simp only [putAll, Act.put, zs1, zs2, zs3]) (hCont (v241, v248, v251) _ ⟨hHeld, (by (with_reducible repeat (first | apply Kd.R_alloc | apply Kd.R_drewN | apply Kd.R_drew)); exact Kd.R_mono HO249.out (fun _ hk => ⟨hk.2, ⟨hk.1.1, hk.1.2⟩⟩)), (by (with_reducible repeat (first | apply Kd.R_alloc | apply Kd.R_drewN | apply Kd.R_drew)); exact Kd.R_mono HO252.out (fun _ hk => ⟨hk.1.2, ⟨hk.1.1.2, hk.2⟩⟩)), (by (with_reducible repeat (first | apply Kd.R_alloc | apply Kd.R_drewN | apply Kd.R_drew)); exact Kd.R_mono HO_8.out (fun _ hk => ⟨hk.1.2, ⟨hk.2, hk.1.1⟩⟩)), (zv8 BK211.out), (zv8 BK212.out), (zv7 HB.out)⟩)
              ·skip
               refine Kd.R_lit_step k58 _ 58 ?hg (N := 46) ?hd (xs := ([(⟨a2_0, a2_1, a2_2, a2_3⟩ : S58)] : List (S58))) (inner := [.int .i64 a2_0, .int .i64 a2_1, .int .i64 a2_2, .int .i64 a2_3]) (ok := fun _ => True) (okp := fun _ => True) ?hr ?hp (fun _ hk => hk) trivial (Below.refl _ _) (Nat.le_refl _) (by simp) ?_; (case hd => rfl); (case hg => rfl); (case hr => first | (go_simp; done) | (go_simp; rfl)); (case hp => exact (Reps.c4 (show Kd.M k58 _ _ _ (⟨a2_0, a2_1, a2_2, a2_3⟩ : S58) [.int .i64 a2_0, .int .i64 a2_1, .int .i64 a2_2, .int .i64 a2_3] from (k58_mkM _ _ _ (⟨a2_0, a2_1, a2_2, a2_3⟩ : S58) )) (Reps.none _ _)))
               intro v251 w67 ho68 hb hg_ hnew_
               clear hg_ hnew_
               (first | rw [← Ny250.out] at ho68 | (simp only [Int.reduceToNat] at ho68; rw [← Ny250.out] at ho68))
               have HO252 := zp.mk (Kd.R_lower (Kd.R_newB (Kd.R_new' (Kd.R_new' ho68 (Kd.R_lt (by (with_reducible repeat (first | apply Kd.R_alloc | apply Kd.R_drewN | apply Kd.R_drew)); exact HO_8.out))) (Kd.R_lt (by (with_reducible repeat (first | apply Kd.R_alloc | apply Kd.R_drewN | apply Kd.R_drew)); exact HO242.out))) (g := gb212) (o := .cells #[.int .i64 a2_0, .int .i64 a2_1, .int .i64 a2_2, .int .i64 a2_3] 58 (0, 0)) (zv8 BK212.out)) (zk (zv7 HB.out)))
               replace HO_8 := zp.mk (Kd.R_elder' (by (with_reducible repeat (first | apply Kd.R_alloc | apply Kd.R_drewN | apply Kd.R_drew)); exact HO_8.out) (Kd.R_base ho68) hb)
               replace HO242 := zp.mk (Kd.R_elder' (by (with_reducible repeat (first | apply Kd.R_alloc | apply Kd.R_drewN | apply Kd.R_drew)); exact HO242.out) (Kd.R_base ho68) hb)
               replace BK211 := zp.mk (zl (zv8 BK211.out) hb)
               replace BK212 := zp.mk (zl (zv8 BK212.out) hb)
               replace HR246 := zp.mk (Kd.zt (by repeat (first | (with_reducible exact HR246.out) | (with_reducible refine Kd.zr ?_ _) | (with_reducible refine Kd.zq ?_ _) | (with_reducible refine Kd.C_drew ?_) | exact HR246.out)) hb)
               replace HR259 := zp.mk (Kd.zt (by repeat (first | (with_reducible exact HR259.out) | (with_reducible refine Kd.zr ?_ _) | (with_reducible refine Kd.zq ?_ _) | (with_reducible refine Kd.C_drew ?_) | exact HR259.out)) hb)
               replace HB := zp.mk (zj (zv7 HB.out) hb)
               clear hb ho68
               refine hK.out _ _ ⟨(ze BK212.out 0).trans rfl, (ze BK212.out 1).trans rfl, (ze BK212.out 2).trans rfl, (ze BK212.out 3).trans rfl⟩ (fun hHeld => ?_)
               clear hK K
               refine norm_ (a' := ?_) ?_ ?_
               rotate_left
               ·show Act.put _ (some 46) _ = _
                simp only [Act.put, zs1, zs2, zs3, i64_w, i32_w]
                rfl
               refine one_ (i := 4) (N := some 44) (zB 14 1919) rfl rfl (one_of HT_.out (by kernel_rfl)) (by decide) (fun K hK => ?_)
               refine Kd.R_append_rows_step k58 (w0 := w) w.heap.size (by rfl) (.tmp 40) (.tmp 43) 64 58 (.agg #[(.int .i64 0), (.int .i64 0), (.int .i64 0), (.int .i64 0)]) 32 rfl Try.underlying64 info58 rfl (by decide) (by omega) v241 y240 y243 _ _ _ (fun k_ => some k_ ≠ (.slice Ao29 t215.length co29 : Value).ownBlock ∧ some k_ ≠ (v251 : Value).ownBlock ∧ k_ ≠ gb212) (fun _ => False) rfl rfl ?aO ?aR (fun _ _ h => h) (fun _ h => h.elim) ?aF ?aB ?aS ?aL ?_
               (case aR => repeat (first | exact (by repeat (first | (with_reducible exact HR246.out) | (with_reducible refine Kd.zr ?_ _) | (with_reducible refine Kd.zq ?_ _) | (with_reducible refine Kd.C_drew ?_) | exact HR246.out)) | (with_reducible refine Kd.zr ?_ _) | (with_reducible refine Kd.zq ?_ _) | (with_reducible refine Kd.C_drew ?_)))
               (case aB => exact (zv7 HB.out))
               (case aF => exact (fun k_ hk => ⟨Kd.fresh' (Kd.R_lt (by (with_reducible repeat (first | apply Kd.R_alloc | apply Kd.R_drewN | apply Kd.R_drew)); exact HO_8.out)) k_ hk, Kd.fresh' (Kd.R_lt (by (with_reducible repeat (first | apply Kd.R_alloc | apply Kd.R_drewN | apply Kd.R_drew)); exact HO252.out)) k_ hk, Kd.freshB (g := gb212) (o := .cells #[.int .i64 a2_0, .int .i64 a2_1, .int .i64 a2_2, .int .i64 a2_3] 58 (0, 0)) (zv8 BK212.out) k_ hk⟩))
               (case aO => exact (by (with_reducible repeat (first | apply Kd.R_alloc | apply Kd.R_drewN | apply Kd.R_drew)); exact Kd.R_mono HO242.out (fun _ hk => ⟨hk.1.1.2, ⟨hk.2, hk.1.2⟩⟩)))
               (case aS => exact (zk (zv7 HB.out)))
               (case aL => have := LMc57.out; omega)
               intro v248 w69 ho hb hg hat
               rw [← Ny247.out] at ho
               have n0_ := zp.mk (Kd.R_after (ok := (fun k_ => some k_ ≠ (v251 : Value).ownBlock ∧ k_ ≠ gb212)) (by (with_reducible repeat (first | apply Kd.R_alloc | apply Kd.R_drewN | apply Kd.R_drew)); exact Kd.R_mono HO_8.out (fun _ hk => ⟨⟨hk.2, hk.1.1⟩, hk.1.2⟩)) hg hat)
               have n1_ := zp.mk (blk_grown (g := gb211) (o := .cells #[.int .i64 a0_0, .slice A0_1 l0_1.length c0_1] 27 (0, 0)) (zv8 BK211.out) hg (Kd.R_ne HO242.out BK211.out (by decide)))
               have n2_ := zp.mk (blk_grown (g := gb212) (o := .cells #[.int .i64 a2_0, .int .i64 a2_1, .int .i64 a2_2, .int .i64 a2_3] 58 (0, 0)) (zv8 BK212.out) hg (Kd.R_away HO242.out (fun _ hk => hk.1.2)))
               have n3_ := zp.mk (Kd.R_after (ok := (fun k_ => some k_ ≠ (.slice Ao29 t215.length co29 : Value).ownBlock ∧ k_ ≠ gb212)) (by (with_reducible repeat (first | apply Kd.R_alloc | apply Kd.R_drewN | apply Kd.R_drew)); exact Kd.R_mono HO252.out (fun _ hk => ⟨⟨hk.1.1.2, hk.2⟩, hk.1.2⟩)) hg hat)
               have n4_ := zp.mk (hb)
               have n5_ := zp.mk ((show Kd.C k58 w69 Ao29 y243.length y243 from by rw [Ny243.out]; exact Kd.C_take (m := (x9_2 : Int).toNat) ((Kd.R_reads' (Kd.R_after (ok := (fun k_ => some k_ ≠ (v251 : Value).ownBlock ∧ k_ ≠ gb212)) (by (with_reducible repeat (first | apply Kd.R_alloc | apply Kd.R_drewN | apply Kd.R_drew)); exact Kd.R_mono HO_8.out (fun _ hk => ⟨⟨hk.2, hk.1.1⟩, hk.1.2⟩)) hg hat)).2.2) KL63.out))
               have n6_ := zp.mk ((show Kd.C k58 w69 A64 y256.length y256 from by rw [Ny256.out, KA64.out]; exact Kd.C_drop (m := (x9_2 : Int).toNat) (c := co29) ((Kd.R_reads' (Kd.R_after (ok := (fun k_ => some k_ ≠ (v251 : Value).ownBlock ∧ k_ ≠ gb212)) (by (with_reducible repeat (first | apply Kd.R_alloc | apply Kd.R_drewN | apply Kd.R_drew)); exact Kd.R_mono HO_8.out (fun _ hk => ⟨⟨hk.2, hk.1.1⟩, hk.1.2⟩)) hg hat)).2.2) KL64.out ((Kd.R_reads' (Kd.R_after (ok := (fun k_ => some k_ ≠ (v251 : Value).ownBlock ∧ k_ ≠ gb212)) (by (with_reducible repeat (first | apply Kd.R_alloc | apply Kd.R_drewN | apply Kd.R_drew)); exact Kd.R_mono HO_8.out (fun _ hk => ⟨⟨hk.2, hk.1.1⟩, hk.1.2⟩)) hg hat)).2.1)))
               have n7_ := zp.mk (ho)
               clear HO_8
               clear BK211
               clear BK212
               clear HO252
               clear HB
               clear HR246
               clear HR259
               clear HO242
               have HO_8 := n0_
               have BK211 := n1_
               have BK212 := n2_
               have HO252 := n3_
               have HB := n4_
               have HR246 := n5_
               have HR259 := n6_
               have HO249 := n7_
               clear n0_ n1_ n2_ n3_ n4_ n5_ n6_ n7_
               clear ho hb hg hat
               refine hK.out _ _ ⟨(ze BK212.out 0).trans rfl, (ze BK212.out 1).trans rfl, (ze BK212.out 2).trans rfl, (ze BK212.out 3).trans rfl⟩ (fun hHeld => ?_)
               clear hK K
               refine norm_ (a' := ?_) ?_ ?_
               rotate_left
               ·show Act.put _ (some 44) _ = _
                simp only [Act.put, zs1, zs2, zs3, i64_w, i32_w]
                rfl
               exact norm_ (by simp only [putAll, Act.put, zs1, zs2, zs3]) (hCont (v241, v248, v251) _ ⟨hHeld, (by (with_reducible repeat (first | apply Kd.R_alloc | apply Kd.R_drewN | apply Kd.R_drew)); exact Kd.R_mono HO249.out (fun _ hk => ⟨hk.2.1, ⟨hk.1, hk.2.2⟩⟩)), (by (with_reducible repeat (first | apply Kd.R_alloc | apply Kd.R_drewN | apply Kd.R_drew)); exact Kd.R_mono HO252.out (fun _ hk => ⟨hk.2, ⟨hk.1.1, hk.1.2⟩⟩)), (by (with_reducible repeat (first | apply Kd.R_alloc | apply Kd.R_drewN | apply Kd.R_drew)); exact Kd.R_mono HO_8.out (fun _ hk => ⟨hk.2, ⟨hk.1.1, hk.1.2⟩⟩)), (zv8 BK211.out), (zv8 BK212.out), (zv7 HB.out)⟩)
             ·skip
              refine Kd.R_lit_step k58 _ 58 ?hg (N := 46) ?hd (xs := ([(⟨a2_0, a2_1, a2_2, a2_3⟩ : S58)] : List (S58))) (inner := [.int .i64 a2_0, .int .i64 a2_1, .int .i64 a2_2, .int .i64 a2_3]) (ok := fun _ => True) (okp := fun _ => True) ?hr ?hp (fun _ hk => hk) trivial (Below.refl _ _) (Nat.le_refl _) (by simp) ?_; (case hd => rfl); (case hg => rfl); (case hr => first | (go_simp; done) | (go_simp; rfl)); (case hp => exact (Reps.c4 (show Kd.M k58 _ _ _ (⟨a2_0, a2_1, a2_2, a2_3⟩ : S58) [.int .i64 a2_0, .int .i64 a2_1, .int .i64 a2_2, .int .i64 a2_3] from (k58_mkM _ _ _ (⟨a2_0, a2_1, a2_2, a2_3⟩ : S58) )) (Reps.none _ _)))
              intro v251 w65 ho66 hb hg_ hnew_
              clear hg_ hnew_
              (first | rw [← Ny250.out] at ho66 | (simp only [Int.reduceToNat] at ho66; rw [← Ny250.out] at ho66))
              have HO252 := zp.mk (Kd.R_lower (Kd.R_newB (Kd.R_new' ho66 (Kd.R_lt (by (with_reducible repeat (first | apply Kd.R_alloc | apply Kd.R_drewN | apply Kd.R_drew)); exact HO_8.out))) (g := gb212) (o := .cells #[.int .i64 a2_0, .int .i64 a2_1, .int .i64 a2_2, .int .i64 a2_3] 58 (0, 0)) (zv8 BK212.out)) (zk (zv7 HB.out)))
              replace HO_8 := zp.mk (Kd.R_elder' (by (with_reducible repeat (first | apply Kd.R_alloc | apply Kd.R_drewN | apply Kd.R_drew)); exact HO_8.out) (Kd.R_base ho66) hb)
              replace BK211 := zp.mk (zl (zv8 BK211.out) hb)
              replace BK212 := zp.mk (zl (zv8 BK212.out) hb)
              replace HR246 := zp.mk (Kd.zt (by repeat (first | (with_reducible exact HR246.out) | (with_reducible refine Kd.zr ?_ _) | (with_reducible refine Kd.zq ?_ _) | (with_reducible refine Kd.C_drew ?_) | exact HR246.out)) hb)
              replace HR259 := zp.mk (Kd.zt (by repeat (first | (with_reducible exact HR259.out) | (with_reducible refine Kd.zr ?_ _) | (with_reducible refine Kd.zq ?_ _) | (with_reducible refine Kd.C_drew ?_) | exact HR259.out)) hb)
              replace HB := zp.mk (zj (zv7 HB.out) hb)
              clear hb ho66
              refine hK.out _ _ ⟨(ze BK212.out 0).trans rfl, (ze BK212.out 1).trans rfl, (ze BK212.out 2).trans rfl, (ze BK212.out 3).trans rfl⟩ (fun hHeld => ?_)
              clear hK K
              refine norm_ (a' := ?_) ?_ ?_
              rotate_left
              ·show Act.put _ (some 46) _ = _
               simp only [Act.put, zs1, zs2, zs3, i64_w, i32_w]
               rfl
              refine one_ (i := 0) (N := some 40) (zB 14 1903) rfl rfl (one_of HT_.out (by kernel_rfl)) (by decide) (fun K hK => ?_)
              refine Kd.R_lit_step k58 _ 58 ?hg (N := 40) ?hd (xs := ([] : List (S58))) (inner := []) (ok := fun _ => True) (okp := fun _ => True) ?hr ?hp (fun _ hk => hk) trivial (Below.refl _ _) (Nat.le_refl _) (by simp) ?_; (case hd => rfl); (case hg => rfl); (case hr => first | (go_simp; done) | (go_simp; rfl)); (case hp => exact (Reps.none _ _))
              intro v241 w67 ho68 hb hg_ hnew_
              clear hg_ hnew_
              (first | rw [← Ny240.out] at ho68 | (simp only [Int.reduceToNat] at ho68; rw [← Ny240.out] at ho68))
              have HO242 := zp.mk (Kd.R_lower (Kd.R_newB (Kd.R_new' (Kd.R_new' ho68 (Kd.R_lt (by (with_reducible repeat (first | apply Kd.R_alloc | apply Kd.R_drewN | apply Kd.R_drew)); exact HO_8.out))) (Kd.R_lt (by (with_reducible repeat (first | apply Kd.R_alloc | apply Kd.R_drewN | apply Kd.R_drew)); exact HO252.out))) (g := gb212) (o := .cells #[.int .i64 a2_0, .int .i64 a2_1, .int .i64 a2_2, .int .i64 a2_3] 58 (0, 0)) (zv8 BK212.out)) (zk (zv7 HB.out)))
              replace HO_8 := zp.mk (Kd.R_elder' (by (with_reducible repeat (first | apply Kd.R_alloc | apply Kd.R_drewN | apply Kd.R_drew)); exact HO_8.out) (Kd.R_base ho68) hb)
              replace HO252 := zp.mk (Kd.R_elder' (by (with_reducible repeat (first | apply Kd.R_alloc | apply Kd.R_drewN | apply Kd.R_drew)); exact HO252.out) (Kd.R_base ho68) hb)
              replace BK211 := zp.mk (zl (zv8 BK211.out) hb)
              replace BK212 := zp.mk (zl (zv8 BK212.out) hb)
              replace HR246 := zp.mk (Kd.zt (by repeat (first | (with_reducible exact HR246.out) | (with_reducible refine Kd.zr ?_ _) | (with_reducible refine Kd.zq ?_ _) | (with_reducible refine Kd.C_drew ?_) | exact HR246.out)) hb)
              replace HR259 := zp.mk (Kd.zt (by repeat (first | (with_reducible exact HR259.out) | (with_reducible refine Kd.zr ?_ _) | (with_reducible refine Kd.zq ?_ _) | (with_reducible refine Kd.C_drew ?_) | exact HR259.out)) hb)
              replace HB := zp.mk (zj (zv7 HB.out) hb)
              clear hb ho68
              refine hK.out _ _ ⟨(ze BK212.out 0).trans rfl, (ze BK212.out 1).trans rfl, (ze BK212.out 2).trans rfl, (ze BK212.out 3).trans rfl⟩ (fun hHeld => ?_)
              clear hK K
              refine norm_ (a' := ?_) ?_ ?_
              rotate_left
              ·show Act.put _ (some 40) _ = _
               simp only [Act.put, zs1, zs2, zs3, i64_w, i32_w]
               rfl
              refine one_ (i := 4) (N := some 44) (zB 14 1919) rfl rfl (one_of HT_.out (by kernel_rfl)) (by decide) (fun K hK => ?_)
              refine Kd.R_append_rows_step k58 (w0 := w) w.heap.size (by rfl) (.tmp 40) (.tmp 43) 64 58 (.agg #[(.int .i64 0), (.int .i64 0), (.int .i64 0), (.int .i64 0)]) 32 rfl Try.underlying64 info58 rfl (by decide) (by omega) v241 y240 y243 _ _ _ (fun k_ => some k_ ≠ (.slice Ao29 t215.length co29 : Value).ownBlock ∧ some k_ ≠ (v251 : Value).ownBlock ∧ k_ ≠ gb212) (fun _ => False) rfl rfl ?aO ?aR (fun _ _ h => h) (fun _ h => h.elim) ?aF ?aB ?aS ?aL ?_
              (case aR => repeat (first | exact (by repeat (first | (with_reducible exact HR246.out) | (with_reducible refine Kd.zr ?_ _) | (with_reducible refine Kd.zq ?_ _) | (with_reducible refine Kd.C_drew ?_) | exact HR246.out)) | (with_reducible refine Kd.zr ?_ _) | (with_reducible refine Kd.zq ?_ _) | (with_reducible refine Kd.C_drew ?_)))
              (case aB => exact (zv7 HB.out))
              (case aF => exact (fun k_ hk => ⟨Kd.fresh' (Kd.R_lt (by (with_reducible repeat (first | apply Kd.R_alloc | apply Kd.R_drewN | apply Kd.R_drew)); exact HO_8.out)) k_ hk, Kd.fresh' (Kd.R_lt (by (with_reducible repeat (first | apply Kd.R_alloc | apply Kd.R_drewN | apply Kd.R_drew)); exact HO252.out)) k_ hk, Kd.freshB (g := gb212) (o := .cells #[.int .i64 a2_0, .int .i64 a2_1, .int .i64 a2_2, .int .i64 a2_3] 58 (0, 0)) (zv8 BK212.out) k_ hk⟩))
              (case aO => exact (by (with_reducible repeat (first | apply Kd.R_alloc | apply Kd.R_drewN | apply Kd.R_drew)); exact Kd.R_mono HO242.out (fun _ hk => ⟨hk.1.1.2, ⟨hk.1.2, hk.2⟩⟩)))
              (case aS => exact (zk (zv7 HB.out)))
              (case aL => have := LMc57.out; omega)
              intro v248 w69 ho hb hg hat
              rw [← Ny247.out] at ho
              have n0_ := zp.mk (Kd.R_after (ok := (fun k_ => some k_ ≠ (v251 : Value).ownBlock ∧ k_ ≠ gb212)) (by (with_reducible repeat (first | apply Kd.R_alloc | apply Kd.R_drewN | apply Kd.R_drew)); exact Kd.R_mono HO_8.out (fun _ hk => ⟨⟨hk.1.2, hk.1.1⟩, hk.2⟩)) hg hat)
              have n1_ := zp.mk (blk_grown (g := gb211) (o := .cells #[.int .i64 a0_0, .slice A0_1 l0_1.length c0_1] 27 (0, 0)) (zv8 BK211.out) hg (Kd.R_ne HO242.out BK211.out (by decide)))
              have n2_ := zp.mk (blk_grown (g := gb212) (o := .cells #[.int .i64 a2_0, .int .i64 a2_1, .int .i64 a2_2, .int .i64 a2_3] 58 (0, 0)) (zv8 BK212.out) hg (Kd.R_away HO242.out (fun _ hk => hk.2)))
              have n3_ := zp.mk (Kd.R_after (ok := (fun k_ => some k_ ≠ (.slice Ao29 t215.length co29 : Value).ownBlock ∧ k_ ≠ gb212)) (by (with_reducible repeat (first | apply Kd.R_alloc | apply Kd.R_drewN | apply Kd.R_drew)); exact Kd.R_mono HO252.out (fun _ hk => ⟨⟨hk.1.1.2, hk.1.2⟩, hk.2⟩)) hg hat)
              have n4_ := zp.mk (hb)
              have n5_ := zp.mk ((show Kd.C k58 w69 Ao29 y243.length y243 from by rw [Ny243.out]; exact Kd.C_take (m := (x9_2 : Int).toNat) ((Kd.R_reads' (Kd.R_after (ok := (fun k_ => some k_ ≠ (v251 : Value).ownBlock ∧ k_ ≠ gb212)) (by (with_reducible repeat (first | apply Kd.R_alloc | apply Kd.R_drewN | apply Kd.R_drew)); exact Kd.R_mono HO_8.out (fun _ hk => ⟨⟨hk.1.2, hk.1.1⟩, hk.2⟩)) hg hat)).2.2) KL63.out))
              have n6_ := zp.mk ((show Kd.C k58 w69 A64 y256.length y256 from by rw [Ny256.out, KA64.out]; exact Kd.C_drop (m := (x9_2 : Int).toNat) (c := co29) ((Kd.R_reads' (Kd.R_after (ok := (fun k_ => some k_ ≠ (v251 : Value).ownBlock ∧ k_ ≠ gb212)) (by (with_reducible repeat (first | apply Kd.R_alloc | apply Kd.R_drewN | apply Kd.R_drew)); exact Kd.R_mono HO_8.out (fun _ hk => ⟨⟨hk.1.2, hk.1.1⟩, hk.2⟩)) hg hat)).2.2) KL64.out ((Kd.R_reads' (Kd.R_after (ok := (fun k_ => some k_ ≠ (v251 : Value).ownBlock ∧ k_ ≠ gb212)) (by (with_reducible repeat (first | apply Kd.R_alloc | apply Kd.R_drewN | apply Kd.R_drew)); exact Kd.R_mono HO_8.out (fun _ hk => ⟨⟨hk.1.2, hk.1.1⟩, hk.2⟩)) hg hat)).2.1)))
              have n7_ := zp.mk (ho)
              clear HO_8
              clear BK211
              clear BK212
              clear HO252
              clear HB
              clear HR246
              clear HR259
              clear HO242
              have HO_8 := n0_
              have BK211 := n1_
              have BK212 := n2_
              have HO252 := n3_
              have HB := n4_
              have HR246 := n5_
              have HR259 := n6_
              have HO249 := n7_
              clear n0_ n1_ n2_ n3_ n4_ n5_ n6_ n7_
              clear ho hb hg hat
              refine hK.out _ _ ⟨(ze BK212.out 0).trans rfl, (ze BK212.out 1).trans rfl, (ze BK212.out 2).trans rfl, (ze BK212.out 3).trans rfl⟩ (fun hHeld => ?_)
              clear hK K
              refine norm_ (a' := ?_) ?_ ?_
              rotate_left
              ·show Act.put _ (some 44) _ = _
               simp only [Act.put, zs1, zs2, zs3, i64_w, i32_w]
               rfl
              exact norm_ (by simp only [putAll, Act.put, zs1, zs2, zs3]) (hCont (v241, v248, v251) _ ⟨hHeld, (by (with_reducible repeat (first | apply Kd.R_alloc | apply Kd.R_drewN | apply Kd.R_drew)); exact Kd.R_mono HO249.out (fun _ hk => ⟨hk.2.1, ⟨hk.1, hk.2.2⟩⟩)), (by (with_reducible repeat (first | apply Kd.R_alloc | apply Kd.R_drewN | apply Kd.R_drew)); exact Kd.R_mono HO252.out (fun _ hk => ⟨hk.2, ⟨hk.1.1, hk.1.2⟩⟩)), (by (with_reducible repeat (first | apply Kd.R_alloc | apply Kd.R_drewN | apply Kd.R_drew)); exact Kd.R_mono HO_8.out (fun _ hk => ⟨hk.2, ⟨hk.1.1, hk.1.2⟩⟩)), (zv8 BK211.out), (zv8 BK212.out), (zv7 HB.out)⟩)
            rintro ⟨v241, v248, v251⟩ w70 ⟨hS_, h0_, h1_, h2_, h3_, h4_, h5_⟩
            have n0_ : zp (Kd.R k58 58 w70 w.heap.size (fun k_ => some k_ ≠ (v251 : Value).ownBlock ∧ some k_ ≠ (.slice Ao29 t215.length co29 : Value).ownBlock ∧ k_ ≠ gb212) v248 y247) := ⟨h0_⟩
            have n1_ : zp (Kd.R k58 58 w70 w.heap.size (fun k_ => some k_ ≠ (v248 : Value).ownBlock ∧ some k_ ≠ (.slice Ao29 t215.length co29 : Value).ownBlock ∧ k_ ≠ gb212) v251 y250) := ⟨h1_⟩
            have n2_ : zp (Kd.R k58 58 w70 w.heap.size (fun k_ => some k_ ≠ (v248 : Value).ownBlock ∧ some k_ ≠ (v251 : Value).ownBlock ∧ k_ ≠ gb212) (.slice Ao29 t215.length co29) t215) := ⟨h2_⟩
            have n3_ : zp (w70.heap[gb211]? = some (.cells #[.int .i64 a0_0, .slice A0_1 l0_1.length c0_1] 27 (0, 0))) := ⟨h3_⟩
            have n4_ : zp (w70.heap[gb212]? = some (.cells #[.int .i64 a2_0, .int .i64 a2_1, .int .i64 a2_2, .int .i64 a2_3] 58 (0, 0))) := ⟨h4_⟩
            have n5_ : zp (Below w.heap.size w w70) := ⟨h5_⟩
            clear HO_8
            clear BK211
            clear BK212
            clear HB
            clear h0_ h1_ h2_ h3_ h4_ h5_
            have HO249 := n0_
            have HO252 := n1_
            have HO_8 := n2_
            have BK211 := n3_
            have BK212 := n4_
            have HB := n5_
            clear n0_ n1_ n2_ n3_ n4_ n5_
            have hHeld : w70.cell? ⟨gb212, 0, none⟩ = some (.int .i64 a2_0) ∧ w70.cell? ⟨gb212, 1, none⟩ = some (.int .i64 a2_1) ∧ w70.cell? ⟨gb212, 2, none⟩ = some (.int .i64 a2_2) ∧ w70.cell? ⟨gb212, 3, none⟩ = some (.int .i64 a2_3) := hS_
            obtain ⟨Ao72, co72, eo72⟩ := Kd.R_slice HO252.out
            (first | subst eo72 | (injection eo72 with f1_ f2_ f3_; have f4_ := f1_.symm; have f5_ := f3_.symm; clear f1_ f2_ f3_; subst f4_; subst f5_))
            refine norm_ (a' := ?_) ?_ ?_
            rotate_left
            ·simp only [putAll, Act.put, zs1, zs2, zs3]
             rfl
            refine one_ (i := 7) (N := some 47) (zB 14 2047) rfl rfl (one_of HT_.out (by kernel_rfl)) (by decide) (fun K hK => ?_)
            refine Kd.R_append_rows_step k58 (w0 := w) w.heap.size (by rfl) (.tmp 44) (.tmp 46) 64 58 (.agg #[(.int .i64 0), (.int .i64 0), (.int .i64 0), (.int .i64 0)]) 32 rfl Try.underlying64 info58 rfl (by decide) (by omega) v248 y247 y250 _ _ _ (fun k_ => some k_ ≠ (.slice Ao29 t215.length co29 : Value).ownBlock ∧ some k_ ≠ (.slice Ao72 y250.length co72 : Value).ownBlock ∧ k_ ≠ gb212) (fun _ => False) rfl rfl ?aO ?aR (fun _ _ h => h) (fun _ h => h.elim) ?aF ?aB ?aS ?aL ?_
            (case aR => repeat (first | exact (Kd.R_reads' HO252.out).2.2 | (with_reducible refine Kd.zr ?_ _) | (with_reducible refine Kd.zq ?_ _) | (with_reducible refine Kd.C_drew ?_)))
            (case aB => exact (zv7 HB.out))
            (case aF => exact (fun k_ hk => ⟨Kd.fresh' (Kd.R_lt (by (with_reducible repeat (first | apply Kd.R_alloc | apply Kd.R_drewN | apply Kd.R_drew)); exact HO_8.out)) k_ hk, Kd.fresh' (Kd.R_lt (by (with_reducible repeat (first | apply Kd.R_alloc | apply Kd.R_drewN | apply Kd.R_drew)); exact HO252.out)) k_ hk, Kd.freshB (g := gb212) (o := .cells #[.int .i64 a2_0, .int .i64 a2_1, .int .i64 a2_2, .int .i64 a2_3] 58 (0, 0)) (zv8 BK212.out) k_ hk⟩))
            (case aO => exact (by (with_reducible repeat (first | apply Kd.R_alloc | apply Kd.R_drewN | apply Kd.R_drew)); exact Kd.R_mono HO249.out (fun _ hk => ⟨hk.2.1, ⟨hk.1, hk.2.2⟩⟩)))
            (case aS => exact (zk (zv7 HB.out)))
            (case aL => have := LMc58.out; omega)
            intro v254 w71 ho hb hg hat
            rw [← Ny253.out] at ho
            have n0_ := zp.mk (Kd.R_after (ok := (fun k_ => some k_ ≠ (.slice Ao72 y250.length co72 : Value).ownBlock ∧ k_ ≠ gb212)) (by (with_reducible repeat (first | apply Kd.R_alloc | apply Kd.R_drewN | apply Kd.R_drew)); exact Kd.R_mono HO_8.out (fun _ hk => ⟨⟨hk.2.1, hk.2.2⟩, hk.1⟩)) hg hat)
            have n1_ := zp.mk (blk_grown (g := gb211) (o := .cells #[.int .i64 a0_0, .slice A0_1 l0_1.length c0_1] 27 (0, 0)) (zv8 BK211.out) hg (Kd.R_ne HO249.out BK211.out (by decide)))
            have n2_ := zp.mk (blk_grown (g := gb212) (o := .cells #[.int .i64 a2_0, .int .i64 a2_1, .int .i64 a2_2, .int .i64 a2_3] 58 (0, 0)) (zv8 BK212.out) hg (Kd.R_away HO249.out (fun _ hk => hk.2.2)))
            have n3_ := zp.mk (Kd.R_after (ok := (fun k_ => some k_ ≠ (.slice Ao29 t215.length co29 : Value).ownBlock ∧ k_ ≠ gb212)) (by (with_reducible repeat (first | apply Kd.R_alloc | apply Kd.R_drewN | apply Kd.R_drew)); exact Kd.R_mono HO252.out (fun _ hk => ⟨⟨hk.2.1, hk.2.2⟩, hk.1⟩)) hg hat)
            have n4_ := zp.mk (hb)
            have n5_ := zp.mk (ho)
            clear HO_8
            clear BK211
            clear BK212
            clear HO252
            clear HB
            clear HO249
            have HO_8 := n0_
            have BK211 := n1_
            have BK212 := n2_
            have HO252 := n3_
            have HB := n4_
            have HO255 := n5_
            clear n0_ n1_ n2_ n3_ n4_ n5_
            clear ho hb hg hat
            refine hK.out _ _ ⟨(ze BK212.out 0).trans rfl, (ze BK212.out 1).trans rfl, (ze BK212.out 2).trans rfl, (ze BK212.out 3).trans rfl⟩ (fun hHeld => ?_)
            clear hK K
            refine norm_ (a' := ?_) ?_ ?_
            rotate_left
            ·show Act.put _ (some 47) _ = _
             simp only [Act.put, zs1, zs2, zs3, i64_w, i32_w]
             rfl
            refine one_ (i := 11) (N := some 51) (zB 14 4095) rfl rfl (one_of HT_.out (by kernel_rfl)) (by decide) (fun K hK => ?_)
            refine Kd.R_append_rows_step k58 (w0 := w) w.heap.size (by rfl) (.tmp 47) (.tmp 50) 64 58 (.agg #[(.int .i64 0), (.int .i64 0), (.int .i64 0), (.int .i64 0)]) 32 rfl Try.underlying64 info58 rfl (by decide) (by omega) v254 y253 y256 _ _ _ (fun k_ => some k_ ≠ (.slice Ao29 t215.length co29 : Value).ownBlock ∧ some k_ ≠ (.slice Ao72 y250.length co72 : Value).ownBlock ∧ k_ ≠ gb212) (fun _ => False) rfl rfl ?aO ?aR (fun _ _ h => h) (fun _ h => h.elim) ?aF ?aB ?aS ?aL ?_
            (case aR => repeat (first | exact (show Kd.C k58 _ A64 y256.length y256 from by rw [Ny256.out, KA64.out]; exact Kd.C_drop (m := (x9_2 : Int).toNat) (c := co29) (Kd.R_reads' HO_8.out).2.2 KL64.out (Kd.R_reads' HO_8.out).2.1) | (with_reducible refine Kd.zr ?_ _) | (with_reducible refine Kd.zq ?_ _) | (with_reducible refine Kd.C_drew ?_)))
            (case aB => exact (zv7 HB.out))
            (case aF => exact (fun k_ hk => ⟨Kd.fresh' (Kd.R_lt (by (with_reducible repeat (first | apply Kd.R_alloc | apply Kd.R_drewN | apply Kd.R_drew)); exact HO_8.out)) k_ hk, Kd.fresh' (Kd.R_lt (by (with_reducible repeat (first | apply Kd.R_alloc | apply Kd.R_drewN | apply Kd.R_drew)); exact HO252.out)) k_ hk, Kd.freshB (g := gb212) (o := .cells #[.int .i64 a2_0, .int .i64 a2_1, .int .i64 a2_2, .int .i64 a2_3] 58 (0, 0)) (zv8 BK212.out) k_ hk⟩))
            (case aO => exact HO255.out)
            (case aS => exact (zk (zv7 HB.out)))
            (case aL => have := LMt_.out; omega)
            intro vt_ wt_ ho hb hg hat
            have n0_ := zp.mk (blk_grown (g := gb212) (o := .cells #[.int .i64 a2_0, .int .i64 a2_1, .int .i64 a2_2, .int .i64 a2_3] 58 (0, 0)) (zv8 BK212.out) hg (Kd.R_away HO255.out (fun _ hk => hk.2.2)))
            clear HO_8 BK211 BK212 HB
            have HOt := zp.mk ho
            have HB := zp.mk hb
            have BK212 := n0_
            clear n0_ ho hb hg hat
            refine hK.out _ _ ⟨(ze BK212.out 0).trans rfl, (ze BK212.out 1).trans rfl, (ze BK212.out 2).trans rfl, (ze BK212.out 3).trans rfl⟩ (fun hHeld => ?_)
            clear hK K
            refine norm_ (a' := ?_) ?_ ?_
            rotate_left
            ·show Act.put _ (some 51) _ = _
             simp only [Act.put, zs1, zs2, zs3, i64_w, i32_w]
             rfl
            refine pure_ (i := 12) (N := some 6) (v := ?_) (a' := ?_) (zB 14 8191) rfl rfl (any_of HT_.out (by kernel_rfl)) (fun _ _ _ h => h) (Or.inl ⟨by rfl, ?_⟩) ?_ ?_
            rotate_left
            ·intro w'
             go_simp
             with_reducible rfl
            rotate_left
            ·simp only [Act.put, zs1, zs2, zs3, i64_w, i32_w]
             rfl
            refine pure_ (i := 13) (N := some 7) (v := ?_) (a' := ?_) (zB 14 16383) rfl rfl (any_of HT_.out (by kernel_rfl)) (fun _ _ _ h => h) (Or.inl ⟨by rfl, ?_⟩) ?_ ?_
            rotate_left
            ·intro w'
             go_simp
             with_reducible rfl
            rotate_left
            ·simp only [Act.put, zs1, zs2, zs3, i64_w, i32_w]
             rfl
            refine done_ (done_of HT_.out (by kernel_rfl)) ?_
            try go_wp2
            go_ret2
            exact ⟨_, by first | rfl | (simp [errW_none, errW_some] <;> rfl) | (simp [*, errW_none, errW_some] <;> rfl), by (with_reducible repeat (first | apply Kd.R_alloc | apply Kd.R_drewN | apply Kd.R_drew)); exact Kd.R_mono HOt.out (fun _ hk => trivial), zv7 HB.out⟩
           ·rw [if_neg c58] at H
            exact absurd H (by simp)
          ·rw [if_neg c57] at H
           exact absurd H (by simp)
         ·rw [if_neg c56] at H
          exact absurd H (by simp)
        ·rw [if_neg c55] at H
         exact absurd H (by simp)

end Go.Proofs.Ytdpoliolinghfaa.QFnExactPolicySet
