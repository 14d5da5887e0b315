/- Proved: calls of the program come to the answers of the plain Lean functions that stand beside them. Each contract names its conditions. (Written by a program of this session, over the printer of the kit.) -/
import Derived.Test.YtnnahpmnkpmopaaZAggJoinQFnExactAggJoinx0
import Derived.Test.YtnnahpmnkpmopaaZAggJoinQFnExactAggJoinx1
import Derived.Test.YtnnahpmnkpmopaaZAggJoinQFnExactAggJoinx6
import Derived.Test.YtnnahpmnkpmopaaZAggJoinQFnExactAggJoinx7
namespace Go.Proofs.Ytnnahpmnkpmopaa.QFnExactAggJoin
open Go.RowKit Go.Proofs.YtnnahpmnkpmopaaW.PrintWords Go.Proofs.YtnnahpmnkpmopaaW.PrintLast Go.Proofs.YtnnahpmnkpmopaaW.PrintMore
attribute [local go_sem] max2_int min2_int max_two min_two max_three min_three max_four min_four   -- for this text's walks alone
set_option linter.unusedVariables false
set_option linter.unusedSimpArgs false

attribute [local go_sem high] eqA30
/-! ### impl_isAgg: function 34 -/
mutual
def impl_isAgg.j0 : Nat → Bool → Int → Int → Int → Int → Int → List Int → Option (Bool)
 | 0, _, _, _, _, _, _, _ => none
 | k + 1, x52, x253000, x253001, x253002, x253003, x253004, x253005 => if x52 = true then (some false) else (impl_isAgg.l0 k x253005 (x253005.length : Int) 0 x253000 x253001 x253002 x253003 x253004 x253005 x253001 x253002)
def impl_isAgg.l0 : Nat → List Int → Int → Int → Int → Int → Int → Int → Int → List Int → Int → Int → Option (Bool)
 | 0, _, _, _, _, _, _, _, _, _, _, _ => none
 | k + 1, x56, x57, x58, x253000, x253001, x253002, x253003, x253004, x253005, x256000, x256001 => if x58 < x57 then (if 0 ≤ x58 then (if x58 < (x56.length : Int) then (if x58 > 0 then (if 0 ≤ (wrap64 (x58 - 1)) then (if (wrap64 (x58 - 1)) < (x253005.length : Int) then (impl_isAgg.j2 k (rd x56 x58) x56 x57 x58 (decide ((rd x56 x58) > (rd x253005 (wrap64 (x58 - 1))))) x253000 x253001 x253002 x253003 x253004 x253005 x256000 x256001) else (none)) else (none)) else (impl_isAgg.j2 k (rd x56 x58) x56 x57 x58 false x253000 x253001 x253002 x253003 x253004 x253005 x256000 x256001)) else (none)) else (none)) else (if 0 ≤ (wrap64 ((x253005.length : Int) - 1)) then (if (wrap64 ((x253005.length : Int) - 1)) < (x253005.length : Int) then (if x253000 ≤ 4 then (if x253003 = (rd x253005 (wrap64 ((x253005.length : Int) - 1))) then (some (x256000 == 0 && (x256001 == 0))) else (some false)) else ((impl_WideOf.f x253003).bind fun aH => ((impl_WideNeg.f aH.1 aH.2).bind fun aq => ((impl_WideAdd.f x256000 x256001 aq.1 aq.2).bind fun aa => (if x253003 ≤ (rd x253005 (wrap64 ((x253005.length : Int) - 1))) then ((impl_wideTimes.f k x253003 (wrap64 ((wrap64 (x253000 - 4)) - 1))).bind fun af => ((impl_WideCmp.f k af.1 af.2 aa.1 aa.2).bind fun ag => (if ag ≤ 0 then ((impl_wideTimes.f k (rd x253005 (wrap64 ((x253005.length : Int) - 1))) (wrap64 ((wrap64 (x253000 - 4)) - 1))).bind fun z => ((impl_WideCmp.f k aa.1 aa.2 z.1 z.2).bind fun ah => (some (decide (ah ≤ 0))))) else (some false)))) else (some false)))))) else (none)) else (none))
def impl_isAgg.j2 : Nat → Int → List Int → Int → Int → Bool → Int → Int → Int → Int → Int → List Int → Int → Int → Option (Bool)
 | 0, _, _, _, _, _, _, _, _, _, _, _, _, _ => none
 | k + 1, x5, x56, x57, x58, x74, x253000, x253001, x253002, x253003, x253004, x253005, x256000, x256001 => if x74 = true then (some false) else ((impl_WideOf.f x5).bind fun aK => ((impl_WideNeg.f aK.1 aK.2).bind fun ap => ((impl_WideAdd.f x256000 x256001 ap.1 ap.2).bind fun ak => (impl_isAgg.l0 k x56 x57 (wrap64 (x58 + 1)) x253000 x253001 x253002 x253003 x253004 x253005 ak.1 ak.2))))
end
def impl_isAgg.f (k : Nat) (J : Int) (Y : Int) (Z : Int) (T : Int) (X : Int) (D : List Int) : Option (Bool) := if J = 0 then (if (Y == 0 && (Z == 0)) = true then (if T = 0 then (if X = 0 then (some ((D.length : Int) == 0)) else (some false)) else (some false)) else (some false)) else ((impl_in.f J 1 1000000).bind fun aX => (if aX = true then (if (D.length : Int) = (mn J 4) then (if 0 < (D.length : Int) then (impl_isAgg.j0 k ((rd D 0) != X) J Y Z T X D) else (none)) else (impl_isAgg.j0 k true J Y Z T X D)) else (impl_isAgg.j0 k true J Y Z T X D)))
def impl_isAgg.T3 : Bool × List (List Nat × List Nat) := (true, [([], []), ([0], [0]), ([1], [1]), ([2], [2]), ([3, 2], [3]), ([4], [4]), ([5, 4], [4, 5]), ([6, 4], [4, 6]), ([4], [4]), ([8, 4], [4, 8]), ([9, 4], [4, 9]), ([7, 10, 4], [4, 7, 10]), ([4, 11], [4, 11]), ([12, 4], [12]), ([13], [13]), ([14, 13], [13, 14]), ([15, 13], [13, 15]), ([16, 13], [13, 16]), ([13], [13]), ([18, 13], [13, 18]), ([17, 19, 13], [13, 17, 19]), ([13, 20], [13, 20])])
def impl_isAgg.B3 : List Nat := [0, 1, 3, 7, 15, 31, 63, 127, 31, 287, 799, 2047, 4095, 8191, 16383, 32767, 65535, 131071, 16383, 278527, 1048575, 2097151]
theorem impl_isAgg.tab3 : rtab .any (opsOf Try.f34 3) = impl_isAgg.T3 := by kernel_rfl
theorem impl_isAgg.bits3 : waitsOk impl_isAgg.T3.2 impl_isAgg.B3 = true := by kernel_rfl
def impl_isAgg.T18 : Bool × List (List Nat × List Nat) := (true, [([], []), ([0], [0]), ([], []), ([1, 2], [1, 2]), ([3], [3]), ([4], [4]), ([5, 4], [4, 5]), ([4], [4]), ([6, 7, 4, 4], [4, 6, 7]), ([4], [4]), ([8, 9, 8, 4], [4, 8, 9]), ([10, 4], [4, 10]), ([4, 11], [4, 11]), ([12, 10], [12]), ([13], [13]), ([13], [13]), ([13], [13]), ([15, 16, 13, 13], [13, 15, 16]), ([14, 17, 17, 13], [13, 14, 17]), ([18, 13], [13, 18]), ([13, 19], [13, 19]), ([20, 18, 0, 1, 2, 3, 4, 5, 6, 7, 8, 9, 10, 11, 12, 13, 14, 15, 16, 17, 18, 19, 20], [20])])
def impl_isAgg.B18 : List Nat := [0, 1, 0, 7, 15, 31, 63, 31, 255, 31, 1023, 2047, 4095, 8191, 16383, 16383, 16383, 114687, 262143, 524287, 1048575, 2097151]
theorem impl_isAgg.tab18 : rtab .any (opsOf Try.f34 18) = impl_isAgg.T18 := by kernel_rfl
theorem impl_isAgg.bits18 : waitsOk impl_isAgg.T18.2 impl_isAgg.B18 = true := by kernel_rfl
set_option maxHeartbeats 8000000 in
set_option maxRecDepth 100000 in
theorem impl_isAgg.calls (k : Nat) (J : Int) (Y : Int) (Z : Int) (T : Int) (X : Int) (al : Option Addr) (ab : Nat) (D : List Int) (r : Bool) (w : World) (cm : Kd.C (Kd.int .i64) w al D.length D) (cy : D.length ≤ ab) (h : impl_isAgg.f k J Y Z T X D = some r) :
  Calls Try.prog 34 #[.agg #[.int .i64 J, .int .i64 Y, .int .u64 Z, .int .i64 T, .int .i64 X, .slice al D.length ab]] w fun e w' => e = .returned (.bool r) ∧ Below w.heap.size w w' := by
 have gw := Try.underlying32
 have gG := Try.underlying30
 have ar := zp.mk cm
 have eB := zp.mk cy
 clear cm cy
 have HB := zp.mk (Below.refl w.heap.size w)
 have H : (if J = 0 then (if (Y == 0 && (Z == 0)) = true then (if T = 0 then (if X = 0 then (some ((D.length : Int) == 0)) else (some false)) else (some false)) else (some false)) else ((impl_in.f J 1 1000000).bind fun aX => (if aX = true then (if (D.length : Int) = (mn J 4) then (if 0 < (D.length : Int) then (impl_isAgg.j0 k ((rd D 0) != X) J Y Z T X D) else (none)) else (impl_isAgg.j0 k true J Y Z T X D)) else (impl_isAgg.j0 k true J Y Z T X D)))) = some r := h
 clear h
 by_cases c2 : J = 0
 ·rw [if_pos c2] at H
  have bX : (J == 0) = true := beq_iff_eq.mpr c2
  have bT : (J != 0) = false := bne_eq_false_iff_eq.mpr c2
  clear c2
  by_cases c3 : (Y == 0 && (Z == 0)) = true
  ·rw [if_pos c3] at H
   have bW : (Y == 0 && (Z == 0)) = true := c3
   (try (have bO : decide (Y = 0 && (Z == 0)) = true := by simpa using c3))
   (try (have bR : (Y == 0 && (Z == 0)) = true := by simpa using c3))
   clear c3
   by_cases c4 : T = 0
   ·rw [if_pos c4] at H
    have bZ : (T == 0) = true := beq_iff_eq.mpr c4
    have bV : (T != 0) = false := bne_eq_false_iff_eq.mpr c4
    clear c4
    by_cases c5 : X = 0
    ·rw [if_pos c5] at H
     have bP : (X == 0) = true := beq_iff_eq.mpr c5
     have b7 : (X != 0) = false := bne_eq_false_iff_eq.mpr c5
     clear c5
     obtain rfl := Option.some.inj H
     go_enter Try.func34, Try.ntmps34
     go_wp2_with (first | ((with_reducible refine zo (N := 1) rfl ?_); (try (refine gate_guard (by rfl) ?_; dsimp only)); refine zm ?hg (N := 1) ?hd (cs := #[.int .i64 J, .int .i64 Y, .int .u64 Z, .int .i64 T, .int .i64 X, .slice al D.length ab]) (t := 32) ?hr ?_; (case hd => rfl); (case hg => rfl); (case hr => first | (go_simp; done) | (go_simp; rfl)); intro I hg w6 hbox hb; have A := zp.mk (hbox); have a1 := zp.mk ((zv3 (zv6 HB.out) hg)); have a2 := zp.mk ((zv3 (zv6 HB.out) hg)); replace HB := zp.mk (zj (zv6 HB.out) hb); clear hb hbox hg; have gE := zt0 A.out; have gz := zt1 A.out; have gF := zt2 A.out; have gq := zt3 A.out; have gp := zt4 A.out; have gu := zt5 A.out; have gs := zd A.out 0; have gv := zd A.out 1; have gC := zd A.out 2; have gn := zd A.out 3; have gr := zd A.out 4; have gD := zd A.out 5))
     go_ret
     exact ⟨by first | rfl | (simp [errW_none, errW_some] <;> rfl) | (simp [*, errW_none, errW_some] <;> rfl), zv7 HB.out⟩
    ·rw [if_neg c5] at H
     have bP : (X == 0) = false := beq_eq_false_iff_ne.mpr c5
     have b7 : (X != 0) = true := bne_iff_ne.mpr c5
     obtain rfl := Option.some.inj H
     go_enter Try.func34, Try.ntmps34
     go_wp2_with (first | ((with_reducible refine zo (N := 1) rfl ?_); (try (refine gate_guard (by rfl) ?_; dsimp only)); refine zm ?hg (N := 1) ?hd (cs := #[.int .i64 J, .int .i64 Y, .int .u64 Z, .int .i64 T, .int .i64 X, .slice al D.length ab]) (t := 32) ?hr ?_; (case hd => rfl); (case hg => rfl); (case hr => first | (go_simp; done) | (go_simp; rfl)); intro I hg w8 hbox hb; have A := zp.mk (hbox); have a1 := zp.mk ((zv3 (zv6 HB.out) hg)); have a2 := zp.mk ((zv3 (zv6 HB.out) hg)); replace HB := zp.mk (zj (zv6 HB.out) hb); clear hb hbox hg; have ct := zt0 A.out; have cI := zt1 A.out; have dc := zt2 A.out; have df := zt3 A.out; have cn := zt4 A.out; have cq := zt5 A.out; have cf := zd A.out 0; have cg := zd A.out 1; have cW := zd A.out 2; have de := zd A.out 3; have cT := zd A.out 4; have cJ := zd A.out 5))
     go_ret
     exact ⟨by first | rfl | (simp [errW_none, errW_some] <;> rfl) | (simp [*, errW_none, errW_some] <;> rfl), zv7 HB.out⟩
   ·rw [if_neg c4] at H
    have bZ : (T == 0) = false := beq_eq_false_iff_ne.mpr c4
    have bV : (T != 0) = true := bne_iff_ne.mpr c4
    obtain rfl := Option.some.inj H
    go_enter Try.func34, Try.ntmps34
    go_wp2_with (first | ((with_reducible refine zo (N := 1) rfl ?_); (try (refine gate_guard (by rfl) ?_; dsimp only)); refine zm ?hg (N := 1) ?hd (cs := #[.int .i64 J, .int .i64 Y, .int .u64 Z, .int .i64 T, .int .i64 X, .slice al D.length ab]) (t := 32) ?hr ?_; (case hd => rfl); (case hg => rfl); (case hr => first | (go_simp; done) | (go_simp; rfl)); intro I hg gU hbox hb; have A := zp.mk (hbox); have a1 := zp.mk ((zv3 (zv6 HB.out) hg)); have a2 := zp.mk ((zv3 (zv6 HB.out) hg)); replace HB := zp.mk (zj (zv6 HB.out) hb); clear hb hbox hg; have bJ := zt0 A.out; have bI := zt1 A.out; have bG := zt2 A.out; have ba := zt3 A.out; have bm := zt4 A.out; have bh := zt5 A.out; have bf := zd A.out 0; have bk := zd A.out 1; have bb := zd A.out 2; have bF := zd A.out 3; have bw := zd A.out 4; have a4 := zd A.out 5))
    go_ret
    exact ⟨by first | rfl | (simp [errW_none, errW_some] <;> rfl) | (simp [*, errW_none, errW_some] <;> rfl), zv7 HB.out⟩
  ·rw [if_neg c3] at H
   have bW : (Y == 0 && (Z == 0)) = false := by simpa using c3
   (try (have bO : decide (Y = 0 && (Z == 0)) = false := by simpa using c3))
   (try (have bR : (Y == 0 && (Z == 0)) = false := by simpa using c3))
   (try (have gB : ¬ (Y = 0 && (Z == 0)) := by simpa using c3))
   clear c3
   obtain rfl := Option.some.inj H
   go_enter Try.func34, Try.ntmps34
   go_wp2_with (first | ((with_reducible refine zo (N := 1) rfl ?_); (try (refine gate_guard (by rfl) ?_; dsimp only)); refine zm ?hg (N := 1) ?hd (cs := #[.int .i64 J, .int .i64 Y, .int .u64 Z, .int .i64 T, .int .i64 X, .slice al D.length ab]) (t := 32) ?hr ?_; (case hd => rfl); (case hg => rfl); (case hr => first | (go_simp; done) | (go_simp; rfl)); intro I hg gY hbox hb; have A := zp.mk (hbox); have a1 := zp.mk ((zv3 (zv6 HB.out) hg)); have a2 := zp.mk ((zv3 (zv6 HB.out) hg)); replace HB := zp.mk (zj (zv6 HB.out) hb); clear hb hbox hg; have bB := zt0 A.out; have bL := zt1 A.out; have be := zt2 A.out; have bl := zt3 A.out; have bn := zt4 A.out; have bs := zt5 A.out; have bv := zd A.out 0; have bo := zd A.out 1; have bM := zd A.out 2; have a7 := zd A.out 3; have br := zd A.out 4; have a8 := zd A.out 5))
   go_ret
   exact ⟨by first | rfl | (simp [errW_none, errW_some] <;> rfl) | (simp [*, errW_none, errW_some] <;> rfl), zv7 HB.out⟩
 ·rw [if_neg c2] at H
  have bX : (J == 0) = false := beq_eq_false_iff_ne.mpr c2
  have bT : (J != 0) = true := bne_iff_ne.mpr c2
  have cS := zp.mk H
  clear H
  go_enter Try.func34, Try.ntmps34
  go_upto_region 3 with (first | ((with_reducible refine zo (N := 1) rfl ?_); (try (refine gate_guard (by rfl) ?_; dsimp only)); refine zm ?hg (N := 1) ?hd (cs := #[.int .i64 J, .int .i64 Y, .int .u64 Z, .int .i64 T, .int .i64 X, .slice al D.length ab]) (t := 32) ?hr ?_; (case hd => rfl); (case hg => rfl); (case hr => first | (go_simp; done) | (go_simp; rfl)); intro I hg dE hbox hb; have A := zp.mk (hbox); have a1 := zp.mk ((zv3 (zv6 HB.out) hg)); have a2 := zp.mk ((zv3 (zv6 HB.out) hg)); replace HB := zp.mk (zj (zv6 HB.out) hb); clear hb hbox hg; have a5 := zt0 A.out; have bg := zt1 A.out; have bd := zt2 A.out; have a9 := zt3 A.out; have bE := zt4 A.out; have bc := zt5 A.out; have bA := zd A.out 0; have bi := zd A.out 1; have bp := zd A.out 2; have bD := zd A.out 3; have bz := zd A.out 4; have bq := zd A.out 5))
  (try simp only [Act.put, zs1, zs2, zs3])
  go_cut [52] (fun fm wc => ∃ (kq : Nat) (aG : Bool), fm = .bool aG ∧ zp (impl_isAgg.j0 kq aG J Y Z T X D = some r) ∧ zp (kq ≤ k) ∧ zp (wc.heap[I]? = some (.cells #[.int .i64 J, .int .i64 Y, .int .u64 Z, .int .i64 T, .int .i64 X, (.slice al D.length ab)] 32 (0, 0))) ∧ zp (Below w.heap.size w wc))
  case first =>
   have H := cS.out
   clear cS
   replace H := zs4 H
   obtain ⟨aX, dn, H⟩ := H
   replace H : (if aX = true then (if (D.length : Int) = (mn J 4) then (if 0 < (D.length : Int) then (impl_isAgg.j0 k ((rd D 0) != X) J Y Z T X D) else (none)) else (impl_isAgg.j0 k true J Y Z T X D)) else (impl_isAgg.j0 k true J Y Z T X D)) = some r := H
   have di := zp.mk dn
   clear dn
   by_cases a6 : aX = true
   ·subst a6
    have H1 : (if (D.length : Int) = (mn J 4) then (if 0 < (D.length : Int) then (impl_isAgg.j0 k ((rd D 0) != X) J Y Z T X D) else (none)) else (impl_isAgg.j0 k true J Y Z T X D)) = some r := by rw [if_pos rfl] at H; exact H
    clear H
    have H := H1
    clear H1
    obtain ⟨az, aJ⟩ : ∃ j_ : Int, (mn J 4) = j_ := ⟨_, rfl⟩
    replace H : (if (D.length : Int) = (az) then (if 0 < (D.length : Int) then (impl_isAgg.j0 k ((rd D 0) != X) J Y Z T X D) else (none)) else (impl_isAgg.j0 k true J Y Z T X D)) = some r := by first | (rw [aJ] at H; exact H) | (simp only [aJ] at H ⊢; exact H)
    (try rw [aJ] at di)
    (try (have er : az ≤ 4 := by (rw [← aJ]; unfold mn; (repeat' split) <;> omega)))
    (try (have et : az ≤ 64 := by omega))
    have en : (if 4 < J then 4 else J) = az := aJ
    by_cases aU : (D.length : Int) = (az)
    ·rw [if_pos aU] at H
     have ao : ((D.length : Int) == (az)) = true := beq_iff_eq.mpr aU
     have aZ : ((D.length : Int) != (az)) = false := bne_eq_false_iff_eq.mpr aU
     clear aU
     (first | rw [ao] | (simp only [i64_w, i32_w]; rw [ao]) | skip)
     by_cases bx : 0 < (D.length : Int)
     ·rw [if_pos bx] at H
      have bK : decide (0 < (D.length : Int)) = true := decide_eq_true bx
      have bH : decide (0 < D.length) = true := decide_eq_true (by omega)
      clear bx
      have H' := zp.mk H
      clear H
      try go_wp2
      replace A := zp.mk (zi A.out)
      replace HB := zp.mk (zb HB.out)
      have aV : 0 ≤ (0 : Int) := (by omega)
      have aW : 0 < (D.length : Int) := of_decide_eq_true (by first | (with_reducible assumption) | assumption)
      obtain ⟨cH, d9, ac⟩ := Kd.at_int ar.out 0 aV aW
      have aj := ac
      (try rw [show ((0 : Int)).toNat = 0 from rfl] at aj)
      (try rw [show 0 * 1 = 0 from rfl] at aj)
      (try rw [Addr.add_zero'] at aj)
      cases d9
      have fJ : (0 < D.length) = True := eq_true (by omega)
      (try rw [show ((0 : Int)).toNat = 0 from rfl] at ac)
      (try rw [Addr.add_zero'] at ac)
      replace ac := (HB.out.cell (World.block_lt_of_cell? w _ ac)).trans ac
      replace aV := eq_true aV
      replace aW := eq_true aW
      refine start_ (n := 22) (S := fun w' => w'.cell? ⟨I, 0, none⟩ = some (.int .i64 J) ∧ w'.cell? ⟨I, 1, none⟩ = some (.int .i64 Y) ∧ w'.cell? ⟨I, 2, none⟩ = some (.int .u64 Z) ∧ w'.cell? ⟨I, 3, none⟩ = some (.int .i64 T) ∧ w'.cell? ⟨I, 4, none⟩ = some (.int .i64 X) ∧ w'.cell? ⟨I, 5, none⟩ = some (.slice (some cH) D.length ab) ∧ w'.cell? cH = some (.int .i64 (rd D 0))) (ds := []) (zB 22 0) (by kernel_rfl) rfl rfl ⟨(ze A.out 0).trans rfl, (ze A.out 1).trans rfl, (ze A.out 2).trans rfl, (ze A.out 3).trans rfl, (ze A.out 4).trans rfl, (ze A.out 5).trans rfl, ((HB.out.cell (World.block_lt_of_cell? w _ aj)).trans aj)⟩ (fun hHeld => ?_); refine with_tabW impl_isAgg.tab3 impl_isAgg.bits3 (fun HT_ HW_ => ?_)
      generalize dE.drew = g4 at A HB ac hHeld ⊢
      refine zP 0 31 (zB 22 1) HT_ ?_
      refine zT 1 32 (zB 22 3) HT_ HW_ hHeld ?_
      refine one_ (i := 2) (N := some 33) (zB 22 7) rfl rfl (one_of HT_.out (by kernel_rfl)) (by decide) (fun K hK => ?_)
      refine goes_ Try.func46 (by kernel_rfl) rfl #[.int .i64 J, .int .i64 1, .int .i64 1000000] (by rfl) rfl rfl (by (try simp only [List.map_toArray, List.map_cons, List.map_nil]); first | done | rfl | (simp only [List.length_drop, List.length_take]; rfl)) ?_
      with_reducible refine (impl_in.calls J 1 1000000 true _ di.out).mono ?_
      rintro e w' ⟨rfl, ⟨nd, rfl⟩⟩
      refine ⟨_, rfl, ?_⟩
      refine hK.out _ _ ⟨(ze A.out 0).trans rfl, (ze A.out 1).trans rfl, (ze A.out 2).trans rfl, (ze A.out 3).trans rfl, (ze A.out 4).trans rfl, (ze A.out 5).trans rfl, ((HB.out.cell (World.block_lt_of_cell? w _ aj)).trans aj)⟩ (fun hHeld => ?_)
      clear hK K
      refine norm_ (a' := ?_) ?_ ?_
      rotate_left
      ·show Act.put _ (some 33) _ = _
       simp only [Act.put, zs1, zs2, zs3, i64_w, i32_w]
       rfl
      refine zP 3 34 (zB 22 15) HT_ ?_
      refine zP 4 35 (zB 22 31) HT_ ?_
      refine zP 5 36 (zB 22 63) HT_ ?_
      refine zP 8 39 (zB 22 319) HT_ ?_
      refine zT 6 37 (zB 22 383) HT_ HW_ hHeld ?_
      refine zP 7 38 (zB 22 511) HT_ ?_
      refine zT 9 40 (zB 22 1023) HT_ HW_ hHeld ?_
      refine zP 10 41 (zB 22 2047) HT_ ?_
      refine zP 11 42 (zB 22 4095) HT_ ?_
      refine zP 12 43 (zB 22 8191) HT_ ?_
      refine zP 13 44 (zB 22 16383) HT_ ?_
      refine zP 14 45 (zB 22 32767) HT_ ?_
      refine zP 18 49 (zB 22 294911) HT_ ?_
      refine zT 15 46 (zB 22 327679) HT_ HW_ hHeld ?_
      refine zP 16 47 (zB 22 393215) HT_ ?_
      refine zT 17 48 (zB 22 524287) HT_ HW_ hHeld ?_
      refine zT 19 50 (zB 22 1048575) HT_ HW_ hHeld ?_
      refine zP 20 51 (zB 22 2097151) HT_ ?_
      refine zP 21 52 (zB 22 4194303) HT_ ?_
      refine done_ (done_of HT_.out (by kernel_rfl)) ?_
      try go_wp2
      go_meet
      case rel => exact ⟨_, (((rd D 0) != X)), (by first | rfl | (simp; done) | (simp [*]; done)), H', ⟨by first | omega | exact Nat.le_refl _⟩, ⟨zv8 A.out⟩, ⟨zv7 HB.out⟩⟩
     ·rw [if_neg bx] at H
      exact absurd H (by simp)
    ·rw [if_neg aU] at H
     have ao : ((D.length : Int) == (az)) = false := beq_eq_false_iff_ne.mpr aU
     have aZ : ((D.length : Int) != (az)) = true := bne_iff_ne.mpr aU
     (first | rw [ao] | (simp only [i64_w, i32_w]; rw [ao]) | skip)
     have H' := zp.mk H
     clear H
     try go_wp2
     replace A := zp.mk (zi A.out)
     replace HB := zp.mk (zb HB.out)
     refine start_ (n := 22) (S := fun w' => w'.cell? ⟨I, 0, none⟩ = some (.int .i64 J) ∧ w'.cell? ⟨I, 1, none⟩ = some (.int .i64 Y) ∧ w'.cell? ⟨I, 2, none⟩ = some (.int .u64 Z) ∧ w'.cell? ⟨I, 3, none⟩ = some (.int .i64 T) ∧ w'.cell? ⟨I, 4, none⟩ = some (.int .i64 X) ∧ w'.cell? ⟨I, 5, none⟩ = some (.slice al D.length ab)) (ds := []) (zB 22 0) (by kernel_rfl) rfl rfl ⟨(ze A.out 0).trans rfl, (ze A.out 1).trans rfl, (ze A.out 2).trans rfl, (ze A.out 3).trans rfl, (ze A.out 4).trans rfl, (ze A.out 5).trans rfl⟩ (fun hHeld => ?_); refine with_tabW impl_isAgg.tab3 impl_isAgg.bits3 (fun HT_ HW_ => ?_)
     generalize dE.drew = g8 at A HB hHeld ⊢
     refine zP 0 31 (zB 22 1) HT_ ?_
     refine zT 1 32 (zB 22 3) HT_ HW_ hHeld ?_
     refine one_ (i := 2) (N := some 33) (zB 22 7) rfl rfl (one_of HT_.out (by kernel_rfl)) (by decide) (fun K hK => ?_)
     refine goes_ Try.func46 (by kernel_rfl) rfl #[.int .i64 J, .int .i64 1, .int .i64 1000000] (by rfl) rfl rfl (by (try simp only [List.map_toArray, List.map_cons, List.map_nil]); first | done | rfl | (simp only [List.length_drop, List.length_take]; rfl)) ?_
     with_reducible refine (impl_in.calls J 1 1000000 true _ di.out).mono ?_
     rintro e w' ⟨rfl, ⟨nd, rfl⟩⟩
     refine ⟨_, rfl, ?_⟩
     refine hK.out _ _ ⟨(ze A.out 0).trans rfl, (ze A.out 1).trans rfl, (ze A.out 2).trans rfl, (ze A.out 3).trans rfl, (ze A.out 4).trans rfl, (ze A.out 5).trans rfl⟩ (fun hHeld => ?_)
     clear hK K
     refine norm_ (a' := ?_) ?_ ?_
     rotate_left
     ·show Act.put _ (some 33) _ = _
      simp only [Act.put, zs1, zs2, zs3, i64_w, i32_w]
      rfl
     refine zP 3 34 (zB 22 15) HT_ ?_
     refine zP 4 35 (zB 22 31) HT_ ?_
     refine zP 5 36 (zB 22 63) HT_ ?_
     refine zP 8 39 (zB 22 319) HT_ ?_
     refine zT 6 37 (zB 22 383) HT_ HW_ hHeld ?_
     refine zP 7 38 (zB 22 511) HT_ ?_
     refine zT 9 40 (zB 22 1023) HT_ HW_ hHeld ?_
     refine zP 10 41 (zB 22 2047) HT_ ?_
     refine zP 11 42 (zB 22 4095) HT_ ?_
     refine zP 12 43 (zB 22 8191) HT_ ?_
     refine zP 13 44 (zB 22 16383) HT_ ?_
     refine zU 14 45 (zB 22 32767) HT_ ?_
     refine zU 15 46 (zB 22 65535) HT_ ?_
     refine zU 16 47 (zB 22 131071) HT_ ?_
     refine zU 17 48 (zB 22 262143) HT_ ?_
     refine zU 18 49 (zB 22 524287) HT_ ?_
     refine zU 19 50 (zB 22 1048575) HT_ ?_
     refine zU 20 51 (zB 22 2097151) HT_ ?_
     refine zP 21 52 (zB 22 4194303) HT_ ?_
     refine done_ (done_of HT_.out (by kernel_rfl)) ?_
     try go_wp2
     go_meet
     case rel => exact ⟨_, (true), (by first | rfl | (simp; done) | (simp [*]; done)), H', ⟨by first | omega | exact Nat.le_refl _⟩, ⟨zv8 A.out⟩, ⟨zv7 HB.out⟩⟩
   ·replace a6 := Bool.eq_false_iff.mpr a6
    subst a6
    have H1 : (impl_isAgg.j0 k true J Y Z T X D) = some r := by rw [if_neg (show ¬ (false = true) by decide)] at H; exact H
    clear H
    have H := H1
    clear H1
    have H' := zp.mk H
    clear H
    try go_wp2
    replace A := zp.mk (zi A.out)
    replace HB := zp.mk (zb HB.out)
    refine start_ (n := 22) (S := fun w' => w'.cell? ⟨I, 0, none⟩ = some (.int .i64 J) ∧ w'.cell? ⟨I, 1, none⟩ = some (.int .i64 Y) ∧ w'.cell? ⟨I, 2, none⟩ = some (.int .u64 Z) ∧ w'.cell? ⟨I, 3, none⟩ = some (.int .i64 T) ∧ w'.cell? ⟨I, 4, none⟩ = some (.int .i64 X) ∧ w'.cell? ⟨I, 5, none⟩ = some (.slice al D.length ab)) (ds := []) (zB 22 0) (by kernel_rfl) rfl rfl ⟨(ze A.out 0).trans rfl, (ze A.out 1).trans rfl, (ze A.out 2).trans rfl, (ze A.out 3).trans rfl, (ze A.out 4).trans rfl, (ze A.out 5).trans rfl⟩ (fun hHeld => ?_); refine with_tabW impl_isAgg.tab3 impl_isAgg.bits3 (fun HT_ HW_ => ?_)
    generalize dE.drew = g6 at A HB hHeld ⊢
    refine zP 0 31 (zB 22 1) HT_ ?_
    refine zT 1 32 (zB 22 3) HT_ HW_ hHeld ?_
    refine one_ (i := 2) (N := some 33) (zB 22 7) rfl rfl (one_of HT_.out (by kernel_rfl)) (by decide) (fun K hK => ?_)
    refine goes_ Try.func46 (by kernel_rfl) rfl #[.int .i64 J, .int .i64 1, .int .i64 1000000] (by rfl) rfl rfl (by (try simp only [List.map_toArray, List.map_cons, List.map_nil]); first | done | rfl | (simp only [List.length_drop, List.length_take]; rfl)) ?_
    with_reducible refine (impl_in.calls J 1 1000000 false _ di.out).mono ?_
    rintro e w' ⟨rfl, ⟨nd, rfl⟩⟩
    refine ⟨_, rfl, ?_⟩
    refine hK.out _ _ ⟨(ze A.out 0).trans rfl, (ze A.out 1).trans rfl, (ze A.out 2).trans rfl, (ze A.out 3).trans rfl, (ze A.out 4).trans rfl, (ze A.out 5).trans rfl⟩ (fun hHeld => ?_)
    clear hK K
    refine norm_ (a' := ?_) ?_ ?_
    rotate_left
    ·show Act.put _ (some 33) _ = _
     simp only [Act.put, zs1, zs2, zs3, i64_w, i32_w]
     rfl
    refine zP 3 34 (zB 22 15) HT_ ?_
    refine zP 4 35 (zB 22 31) HT_ ?_
    refine zU 5 36 (zB 22 63) HT_ ?_
    refine zU 6 37 (zB 22 127) HT_ ?_
    refine zU 7 38 (zB 22 255) HT_ ?_
    refine zU 8 39 (zB 22 511) HT_ ?_
    refine zU 9 40 (zB 22 1023) HT_ ?_
    refine zU 10 41 (zB 22 2047) HT_ ?_
    refine zU 11 42 (zB 22 4095) HT_ ?_
    refine zP 12 43 (zB 22 8191) HT_ ?_
    refine zP 13 44 (zB 22 16383) HT_ ?_
    refine zU 14 45 (zB 22 32767) HT_ ?_
    refine zU 15 46 (zB 22 65535) HT_ ?_
    refine zU 16 47 (zB 22 131071) HT_ ?_
    refine zU 17 48 (zB 22 262143) HT_ ?_
    refine zU 18 49 (zB 22 524287) HT_ ?_
    refine zU 19 50 (zB 22 1048575) HT_ ?_
    refine zU 20 51 (zB 22 2097151) HT_ ?_
    refine zP 21 52 (zB 22 4194303) HT_ ?_
    refine done_ (done_of HT_.out (by kernel_rfl)) ?_
    try go_wp2
    go_meet
    case rel => exact ⟨_, (true), (by first | rfl | (simp; done) | (simp [*]; done)), H', ⟨by first | omega | exact Nat.le_refl _⟩, ⟨zv8 A.out⟩, ⟨zv7 HB.out⟩⟩
  case rest =>
   clear cS
   try clear c1
   try clear c2
   try clear bX
   try clear bT
   try clear p2
   try clear q2
   try clear hx2
   try clear qi2
   try clear c3
   try clear bW
   try clear bO
   try clear bR
   try clear c4
   try clear bZ
   try clear bV
   try clear c5
   try clear bP
   try clear b7
   try clear a6
   try clear aU
   try clear ao
   try clear aZ
   try clear bx
   try clear bK
   try clear bH
   try clear bJ
   try clear bI
   try clear bG
   try clear ba
   try clear bm
   try clear bh
   try clear bB
   try clear bL
   try clear be
   try clear bl
   try clear bn
   try clear bs
   try clear a5
   try clear bg
   try clear bd
   try clear a9
   try clear bE
   try clear bc
   try clear ct
   try clear cI
   try clear dc
   try clear df
   try clear cn
   try clear cq
   try clear bf
   try clear bk
   try clear bb
   try clear bF
   try clear bw
   try clear a4
   try clear bv
   try clear bo
   try clear bM
   try clear a7
   try clear br
   try clear a8
   try clear bA
   try clear bi
   try clear bp
   try clear bD
   try clear bz
   try clear bq
   try clear cf
   try clear cg
   try clear cW
   try clear de
   try clear cT
   try clear cJ
   try clear ac
   try clear aV
   try clear aW
   obtain ⟨kq, aG, rfl, HA, b1, A, HB⟩ := hcut
   cases kq with
   | zero => exact absurd HA.out (by simp [impl_isAgg.j0])
   | succ kj13 =>
    have H := HA.out
    clear HA
    simp only [impl_isAgg.j0] at H
    by_cases b9 : aG = true
    ·subst b9
     have H1 : (some false) = some r := by rw [if_pos rfl] at H; exact H
     clear H
     have H := H1
     clear H1
     obtain rfl := Option.some.inj H
     go_wp2
     go_ret
     exact ⟨by first | rfl | (simp [errW_none, errW_some] <;> rfl) | (simp [*, errW_none, errW_some] <;> rfl), zv7 HB.out⟩
    ·replace b9 := Bool.eq_false_iff.mpr b9
     subst b9
     have H1 : (impl_isAgg.l0 kj13 D (D.length : Int) 0 J Y Z T X D Y Z) = some r := by rw [if_neg (show ¬ (false = true) by decide)] at H; exact H
     clear H
     have H := H1
     clear H1
     have H' := zp.mk H
     clear H
     have cp := zt0 A.out
     have cM := zt1 A.out
     have db := zt2 A.out
     have cP := zt3 A.out
     have cD := zt4 A.out
     have cN := zt5 A.out
     have ck := zd A.out 0
     have cO := zd A.out 1
     have ce := zd A.out 2
     have cl := zd A.out 3
     have cv := zd A.out 4
     have ci := zd A.out 5
     go_wp2_with (first | ((with_reducible refine zo (N := 3) rfl ?_); (try (refine gate_guard (by rfl) ?_; dsimp only)); refine zm ?hg (N := 3) ?hd (cs := #[.int .i64 0, .int .u64 0]) (t := 30) ?hr ?_; (case hd => rfl); (case hg => rfl); (case hr => first | (go_simp; done) | (go_simp; rfl)); intro W hg gZ hbox hb; have B := zp.mk (hbox); have fi := zp.mk ((zv3 (zv7 HB.out) hg)); have fK := zp.mk ((zv3 (zv7 HB.out) hg)); have U := zp.mk ((by rw [hg]; exact Nat.ne_of_lt (blk_lt (g := I) (o := .cells #[.int .i64 J, .int .i64 Y, .int .u64 Z, .int .i64 T, .int .i64 X, .slice al D.length ab] 32 (0, 0)) (zv8 A.out)) : I ≠ W)); have s := zp.mk ((by rw [hg]; exact Nat.ne_of_gt (blk_lt (g := I) (o := .cells #[.int .i64 J, .int .i64 Y, .int .u64 Z, .int .i64 T, .int .i64 X, .slice al D.length ab] 32 (0, 0)) (zv8 A.out)) : W ≠ I)); replace A := zp.mk (zl (zv8 A.out) hb); replace HB := zp.mk (zj (zv7 HB.out) hb); clear hb hbox hg; have e3 := s.out; have gj := U.out; have cr := zt0 B.out; have dd := zt1 B.out; have cY := zd B.out 0; have cE := zd B.out 1; have ch := zt0 A.out; have cC := zt1 A.out; have cA := zt2 A.out; have cF := zt3 A.out; have cU := zt4 A.out; have cx := zt5 A.out; have cj := zd A.out 0; have cZ := zd A.out 1; have cG := zd A.out 2; have cQ := zd A.out 3; have co := zd A.out 4; have cX := zd A.out 5))
     go_loopg [58] kj13 (fun kq fE w' => ∃ (l : Int) (O : Int) (G : Int), fE = .int .i64 l ∧ zp (impl_isAgg.l0 kq D (D.length : Int) l J Y Z T X D O G = some r) ∧ zp (kq ≤ kj13) ∧ zp (w'.heap[I]? = some (.cells #[.int .i64 J, .int .i64 Y, .int .u64 Z, .int .i64 T, .int .i64 X, (.slice al D.length ab)] 32 (0, 0))) ∧ zp (w'.heap[W]? = some (.cells #[.int .i64 O, .int .u64 G] 30 (0, 0))) ∧ zp (Below w.heap.size w w'))
     case atStart => exact ⟨(0), (Y), (Z), (by first | rfl | (simp; done) | (simp [*]; done)), H', ⟨Nat.le_refl _⟩, ⟨by (with_reducible repeat (first | refine zf ?_ _ | refine zi ?_ | refine zg ?_ _)); refine blk_far ?_ U.out _; (with_reducible repeat (first | refine zf ?_ _ | refine zi ?_ | refine zg ?_ _)); refine blk_far ?_ U.out _; (with_reducible repeat (first | refine zf ?_ _ | refine zi ?_ | refine zg ?_ _)); exact A.out⟩, ⟨by (with_reducible repeat (first | refine zf ?_ _ | refine zi ?_ | refine zg ?_ _)); refine blk_put (cs := #[.int .i64 Y, .int .u64 0]) ?_ 1 _ rfl; (with_reducible repeat (first | refine zf ?_ _ | refine zi ?_ | refine zg ?_ _)); refine blk_put (cs := #[.int .i64 0, .int .u64 0]) ?_ 0 _ rfl; (with_reducible repeat (first | refine zf ?_ _ | refine zi ?_ | refine zg ?_ _)); exact B.out⟩, ⟨zv7 HB.out⟩⟩
     case round =>
      clear H'
      try clear c1
      try clear c2
      try clear bX
      try clear bT
      try clear p2
      try clear q2
      try clear hx2
      try clear qi2
      try clear c3
      try clear bW
      try clear bO
      try clear bR
      try clear c4
      try clear bZ
      try clear bV
      try clear c5
      try clear bP
      try clear b7
      try clear a6
      try clear aU
      try clear ao
      try clear aZ
      try clear bx
      try clear bK
      try clear bH
      try clear b9
      try clear p25
      try clear q25
      try clear hx25
      try clear c28
      try clear bJ
      try clear bI
      try clear bG
      try clear ba
      try clear bm
      try clear bh
      try clear bB
      try clear bL
      try clear be
      try clear bl
      try clear bn
      try clear bs
      try clear a5
      try clear bg
      try clear bd
      try clear a9
      try clear bE
      try clear bc
      try clear cp
      try clear cM
      try clear db
      try clear cP
      try clear cD
      try clear cN
      try clear cr
      try clear dd
      try clear ch
      try clear cC
      try clear cA
      try clear cF
      try clear cU
      try clear cx
      try clear ct
      try clear cI
      try clear dc
      try clear df
      try clear cn
      try clear cq
      try clear bf
      try clear bk
      try clear bb
      try clear bF
      try clear bw
      try clear a4
      try clear bv
      try clear bo
      try clear bM
      try clear a7
      try clear br
      try clear a8
      try clear bA
      try clear bi
      try clear bp
      try clear bD
      try clear bz
      try clear bq
      try clear ck
      try clear cO
      try clear ce
      try clear cl
      try clear cv
      try clear ci
      try clear cY
      try clear cE
      try clear cj
      try clear cZ
      try clear cG
      try clear cQ
      try clear co
      try clear cX
      try clear cf
      try clear cg
      try clear cW
      try clear de
      try clear cT
      try clear cJ
      try clear ac
      try clear p2
      try clear aV
      try clear q2
      try clear aW
      obtain ⟨l, O, G, rfl, HA, dj, A, B, HB⟩ := hrel
      cases gk with
      | zero => exact absurd HA.out (by simp [impl_isAgg.l0])
      | succ k2 =>
       have H := HA.out
       clear HA
       simp only [impl_isAgg.l0] at H
       by_cases bu : l < (D.length : Int)
       ·rw [if_pos bu] at H
        have cV : decide (l < (D.length : Int)) = true := decide_eq_true bu
        clear bu
        by_cases cK : 0 ≤ l
        ·rw [if_pos cK] at H
         have dM : decide (0 ≤ l) = true := decide_eq_true cK
         clear cK
         by_cases da : l < (D.length : Int)
         ·rw [if_pos da] at H
          have dA : decide (l < (D.length : Int)) = true := decide_eq_true da
          clear da
          have cu := zp.mk H
          clear H
          have bQ : 0 ≤ (l : Int) := of_decide_eq_true (by first | (with_reducible assumption) | assumption)
          have b0 : l < (D.length : Int) := of_decide_eq_true (by first | (with_reducible assumption) | assumption)
          obtain ⟨cR, el, ay⟩ := Kd.at_int ar.out l bQ b0
          cases el
          replace ay := (HB.out.cell (World.block_lt_of_cell? w _ ay)).trans ay
          replace bQ := eq_true bQ
          replace b0 := eq_true b0
          go_upto_region 9 with (fail)
          go_cut [74] (fun fH wc => ∃ (kq : Nat) (aE : Bool), fH = .bool aE ∧ zp (impl_isAgg.j2 kq (rd D l) D (D.length : Int) l aE J Y Z T X D O G = some r) ∧ zp (kq ≤ k2) ∧ zp (wc.heap[I]? = some (.cells #[.int .i64 J, .int .i64 Y, .int .u64 Z, .int .i64 T, .int .i64 X, (.slice (some cR) D.length ab)] 32 (0, 0))) ∧ zp (wc.heap[W]? = some (.cells #[.int .i64 O, .int .u64 G] 30 (0, 0))) ∧ zp (Below w.heap.size w wc))
          case first =>
           have H := cu.out
           clear cu
           by_cases bC : l > 0
           ·rw [if_pos bC] at H
            have aD : decide (0 < l) = true := decide_eq_true bC
            clear bC
            (first | rw [aD] | (simp only [i64_w, i32_w]; rw [aD]) | skip)
            obtain ⟨an, a3⟩ : ∃ j_ : Int, (wrap64 (l - 1)) = j_ := ⟨_, rfl⟩
            replace H : (if 0 ≤ (an) then (if (an) < (D.length : Int) then (impl_isAgg.j2 k2 (rd D l) D (D.length : Int) l (decide ((rd D l) > (rd D (an)))) J Y Z T X D O G) else (none)) else (none)) = some r := by first | (rw [a3] at H; exact H) | (simp only [a3] at H ⊢; exact H)
            have eo : (IntKind.i64.wrap (l - 1)) = an := (i64_w _).trans a3
            by_cases cL : 0 ≤ (an)
            ·rw [if_pos cL] at H
             have dD : decide (0 ≤ (an)) = true := decide_eq_true cL
             clear cL
             by_cases cz : (an) < (D.length : Int)
             ·rw [if_pos cz] at H
              have dz : decide ((an) < (D.length : Int)) = true := decide_eq_true cz
              clear cz
              have H' := zp.mk H
              clear H
              have gf := U.out
              have fa := s.out
              have dX := zt0 A.out
              have dG := zt1 A.out
              have dF := zt2 A.out
              have dJ := zt3 A.out
              have dH := zt4 A.out
              have dP := zt5 A.out
              have dR := zd A.out 0
              have dN := zd A.out 1
              have dY := zd A.out 2
              have dB := zd A.out 3
              have dU := zd A.out 4
              have dV := zd A.out 5
              have b5 : 0 ≤ ((an) : Int) := of_decide_eq_true (by first | (with_reducible assumption) | assumption)
              have bS : (an) < (D.length : Int) := of_decide_eq_true (by first | (with_reducible assumption) | assumption)
              obtain ⟨dT, d7, aA⟩ := Kd.at_int ar.out (an) b5 bS
              obtain rfl : cR = dT := (by injection d7)
              replace aA := (HB.out.cell (World.block_lt_of_cell? w _ aA)).trans aA
              replace b5 := eq_true b5
              replace bS := eq_true bS
              go_wp2
              go_meet
              case rel => exact ⟨_, (decide ((rd D l) > (rd D (an)))), (by first | rfl | (simp; done) | (simp only [← a3] <;> (first | rfl | simp)) | (simp [*]; done)), H', ⟨by have := b1.out; have := dj.out; first | omega | exact Nat.le_refl _⟩, ⟨zv8 A.out⟩, ⟨zv8 B.out⟩, ⟨zv7 HB.out⟩⟩
             ·rw [if_neg cz] at H
              exact absurd H (by simp)
            ·rw [if_neg cL] at H
             exact absurd H (by simp)
           ·rw [if_neg bC] at H
            have aD : decide (0 < l) = false := decide_eq_false bC
            clear bC
            (first | rw [aD] | (simp only [i64_w, i32_w]; rw [aD]) | skip)
            have H' := zp.mk H
            clear H
            go_wp2
            go_meet
            case rel => exact ⟨_, (false), (by first | rfl | (simp; done) | (simp [*]; done)), H', ⟨by have := b1.out; have := dj.out; first | omega | exact Nat.le_refl _⟩, ⟨zv8 A.out⟩, ⟨zv8 B.out⟩, ⟨zv7 HB.out⟩⟩
          case rest =>
           clear cu
           try clear c1
           try clear c2
           try clear bX
           try clear bT
           try clear p2
           try clear q2
           try clear hx2
           try clear qi2
           try clear c3
           try clear bW
           try clear bO
           try clear bR
           try clear c4
           try clear bZ
           try clear bV
           try clear c5
           try clear bP
           try clear b7
           try clear p6
           try clear a6
           try clear aU
           try clear ao
           try clear aZ
           try clear bx
           try clear bK
           try clear bH
           try clear b9
           try clear p25
           try clear q25
           try clear hx25
           try clear c28
           try clear bu
           try clear cV
           try clear cK
           try clear dM
           try clear da
           try clear dA
           try clear bC
           try clear aD
           try clear cL
           try clear dD
           try clear cz
           try clear dz
           try clear c39
           try clear bJ
           try clear bI
           try clear bG
           try clear ba
           try clear bm
           try clear bh
           try clear bB
           try clear bL
           try clear be
           try clear bl
           try clear bn
           try clear bs
           try clear a5
           try clear bg
           try clear bd
           try clear a9
           try clear bE
           try clear bc
           try clear cp
           try clear cM
           try clear db
           try clear cP
           try clear cD
           try clear cN
           try clear cr
           try clear dd
           try clear ch
           try clear cC
           try clear cA
           try clear cF
           try clear cU
           try clear cx
           try clear dX
           try clear dG
           try clear dF
           try clear dJ
           try clear dH
           try clear dP
           try clear ct
           try clear cI
           try clear dc
           try clear df
           try clear cn
           try clear cq
           try clear bf
           try clear bk
           try clear bb
           try clear bF
           try clear bw
           try clear a4
           try clear bv
           try clear bo
           try clear bM
           try clear a7
           try clear br
           try clear a8
           try clear bA
           try clear bi
           try clear bp
           try clear bD
           try clear bz
           try clear bq
           try clear ck
           try clear cO
           try clear ce
           try clear cl
           try clear cv
           try clear ci
           try clear cY
           try clear cE
           try clear cj
           try clear cZ
           try clear cG
           try clear cQ
           try clear co
           try clear cX
           try clear dR
           try clear dN
           try clear dY
           try clear dB
           try clear dU
           try clear dV
           try clear cf
           try clear cg
           try clear cW
           try clear de
           try clear cT
           try clear cJ
           try clear ac
           try clear ay
           try clear aA
           try clear p2
           try clear p25
           try clear aV
           try clear bQ
           try clear b5
           try clear q2
           try clear q25
           try clear aW
           try clear b0
           try clear bS
           obtain ⟨kq, aE, rfl, HA, dr, A, B, HB⟩ := hcut
           cases kq with
           | zero => exact absurd HA.out (by simp [impl_isAgg.j2])
           | succ kj33 =>
            have H := HA.out
            clear HA
            simp only [impl_isAgg.j2] at H
            by_cases dg : aE = true
            ·subst dg
             have H1 : (some false) = some r := by rw [if_pos rfl] at H; exact H
             clear H
             have H := H1
             clear H1
             obtain rfl := Option.some.inj H
             go_wp2
             go_ret
             exact ⟨by first | rfl | (simp [errW_none, errW_some] <;> rfl) | (simp [*, errW_none, errW_some] <;> rfl), zv7 HB.out⟩
            ·replace dg := Bool.eq_false_iff.mpr dg
             subst dg
             have H1 : ((impl_WideOf.f (rd D l)).bind fun aK => ((impl_WideNeg.f aK.1 aK.2).bind fun ap => ((impl_WideAdd.f O G ap.1 ap.2).bind fun ak => (impl_isAgg.l0 kj33 D (D.length : Int) (wrap64 (l + 1)) J Y Z T X D ak.1 ak.2)))) = some r := by rw [if_neg (show ¬ (false = true) by decide)] at H; exact H
             clear H
             have H := H1
             clear H1
             replace H := zs4 H
             obtain ⟨⟨bY, b6⟩, dl, H⟩ := H
             replace H : ((impl_WideNeg.f bY b6).bind fun ap => ((impl_WideAdd.f O G ap.1 ap.2).bind fun ak => (impl_isAgg.l0 kj33 D (D.length : Int) (wrap64 (l + 1)) J Y Z T X D ak.1 ak.2))) = some r := H
             have e6 := zp.mk dl
             clear dl
             replace H := zs4 H
             obtain ⟨⟨bU, b3⟩, dv, H⟩ := H
             replace H : ((impl_WideAdd.f O G bU b3).bind fun ak => (impl_isAgg.l0 kj33 D (D.length : Int) (wrap64 (l + 1)) J Y Z T X D ak.1 ak.2)) = some r := H
             have eL := zp.mk dv
             clear dv
             replace H := zs4 H
             obtain ⟨⟨bN, cB⟩, dx, H⟩ := H
             replace H : (impl_isAgg.l0 kj33 D (D.length : Int) (wrap64 (l + 1)) J Y Z T X D bN cB) = some r := H
             have fu := zp.mk dx
             clear dx
             have H' := zp.mk H
             clear H
             try go_wp2
             replace A := zp.mk (zi A.out)
             replace B := zp.mk (zi B.out)
             replace HB := zp.mk (zb HB.out)
             refine start_ (n := 6) (S := fun w' => w'.cell? ⟨W, 0, none⟩ = some (.int .i64 O) ∧ w'.cell? ⟨W, 1, none⟩ = some (.int .u64 G)) (ds := [5]) (zB 6 0) (by kernel_rfl) rfl rfl ⟨(ze B.out 0).trans rfl, (ze B.out 1).trans rfl⟩ (fun hHeld => ?_)
             generalize wc.drew = gN at A B HB hHeld ⊢
             refine pure_ (i := 1) (N := some 76) (v := ?_) (a' := ?_) (zB 6 2) rfl rfl (by kernel_rfl) (fun _ _ _ h => h) (Or.inl ⟨by rfl, ?_⟩) ?_ ?_
             rotate_left
             ·intro w'
              go_simp
              with_reducible rfl
             rotate_left
             ·simp only [Act.put, zs1, zs2, zs3, i64_w, i32_w]
              rfl
             refine take_ (i := 0) (N := some 75) (v := ?_) (a' := ?_) (zB 6 3) rfl rfl (by kernel_rfl) (fun _ _ _ h => h) (Or.inl ⟨by rfl, ?_⟩) hHeld ?_ ?_
             rotate_left
             ·rintro w' ⟨s0, s1⟩
              go_simp
              with_reducible rfl
             rotate_left
             ·simp only [Act.put, zs1, zs2, zs3, i64_w, i32_w]
              rfl
             refine one_ (i := 2) (N := some 77) (zB 6 7) rfl rfl (by kernel_rfl) (by decide) (fun K hK => ?_)
             refine goes_ Try.func49 (by kernel_rfl) rfl #[.int .i64 (rd D l)] (by rfl) rfl rfl (by (try simp only [List.map_toArray, List.map_cons, List.map_nil]); first | done | rfl | (simp only [List.length_drop, List.length_take]; rfl)) ?_
             with_reducible refine (impl_WideOf.calls (rd D l) bY b6 _ e6.out).mono ?_
             rintro e g1 ⟨rfl, hb⟩
             refine ⟨_, rfl, ?_⟩
             replace A := zp.mk (zl (zv8 A.out) hb)
             replace B := zp.mk (zl (zv8 B.out) hb)
             replace HB := zp.mk (zj (zv7 HB.out) hb)
             (try clear hb)
             (try clear hb2)
             (try clear hk)
             (try clear hi)
             refine hK.out _ _ ⟨(ze B.out 0).trans rfl, (ze B.out 1).trans rfl⟩ (fun hHeld => ?_)
             clear hK K
             refine norm_ (a' := ?_) ?_ ?_
             rotate_left
             ·show Act.put _ (some 77) _ = _
              simp only [Act.put, zs1, zs2, zs3, i64_w, i32_w]
              rfl
             refine one_ (i := 3) (N := some 78) (zB 6 15) rfl rfl (by kernel_rfl) (by decide) (fun K hK => ?_)
             refine goes_ Try.func48 (by kernel_rfl) rfl #[.agg #[.int .i64 bY, .int .u64 b6]] (by rfl) rfl rfl (by (try simp only [List.map_toArray, List.map_cons, List.map_nil]); first | done | rfl | (simp only [List.length_drop, List.length_take]; rfl)) ?_
             with_reducible refine (impl_WideNeg.calls bY b6 bU b3 _ eL.out).mono ?_
             rintro e gM ⟨rfl, hb⟩
             refine ⟨_, rfl, ?_⟩
             replace A := zp.mk (zl (zv8 A.out) hb)
             replace B := zp.mk (zl (zv8 B.out) hb)
             replace HB := zp.mk (zj (zv7 HB.out) hb)
             (try clear hb)
             (try clear hb2)
             (try clear hk)
             (try clear hi)
             refine hK.out _ _ ⟨(ze B.out 0).trans rfl, (ze B.out 1).trans rfl⟩ (fun hHeld => ?_)
             clear hK K
             refine norm_ (a' := ?_) ?_ ?_
             rotate_left
             ·show Act.put _ (some 78) _ = _
              simp only [Act.put, zs1, zs2, zs3, i64_w, i32_w]
              rfl
             refine one_ (i := 4) (N := some 79) (zB 6 31) rfl rfl (by kernel_rfl) (by decide) (fun K hK => ?_)
             refine goes_ Try.func47 (by kernel_rfl) rfl #[.agg #[.int .i64 O, .int .u64 G], .agg #[.int .i64 bU, .int .u64 b3]] (by rfl) rfl rfl (by (try simp only [List.map_toArray, List.map_cons, List.map_nil]); first | done | rfl | (simp only [List.length_drop, List.length_take]; rfl)) ?_
             with_reducible refine (impl_WideAdd.calls O G bU b3 bN cB _ fu.out).mono ?_
             rintro e d8 ⟨rfl, hb⟩
             refine ⟨_, rfl, ?_⟩
             replace A := zp.mk (zl (zv8 A.out) hb)
             replace B := zp.mk (zl (zv8 B.out) hb)
             replace HB := zp.mk (zj (zv7 HB.out) hb)
             (try clear hb)
             (try clear hb2)
             (try clear hk)
             (try clear hi)
             refine hK.out _ _ ⟨(ze B.out 0).trans rfl, (ze B.out 1).trans rfl⟩ (fun hHeld => ?_)
             clear hK K
             refine norm_ (a' := ?_) ?_ ?_
             rotate_left
             ·show Act.put _ (some 79) _ = _
              simp only [Act.put, zs1, zs2, zs3, i64_w, i32_w]
              rfl
             refine last_ (i := 5) (N := none) (zB 6 63) rfl rfl (by kernel_rfl) (by decide) (fun K hK => ?_)
             have gJ : d8.cell? ⟨W, 0, none⟩ = some (.int .i64 O) := (ze B.out 0).trans rfl
             have fb := zd B.out 0
             have ec := U.out
             have eg := s.out
             have gI : d8.cell? ⟨W, 1, none⟩ = some (.int .u64 G) := (ze B.out 1).trans rfl
             have gm := zd B.out 1
             have ek := U.out
             have ej := s.out
             refine skip_ (w1 := ?_) (by rfl) rfl ?_ ?_
             rotate_left
             ·go_simp
              rfl
             refine hK.out _ _ ?_
             clear hK K
             refine done_ (by kernel_rfl) ?_
             try go_wp2
             go_roundg kj33
             case measure => have := b1.out; have := dj.out; have := dr.out; omega
             case rel => exact ⟨(wrap64 (l + 1)), (bN), (cB), (by first | rfl | (simp; done) | (simp [*]; done)), H', ⟨by have := b1.out; have := dj.out; have := dr.out; omega⟩, ⟨by (with_reducible repeat (first | refine zf ?_ _ | refine zi ?_ | refine zg ?_ _)); refine blk_far ?_ U.out _; (with_reducible repeat (first | refine zf ?_ _ | refine zi ?_ | refine zg ?_ _)); refine blk_far ?_ U.out _; (with_reducible repeat (first | refine zf ?_ _ | refine zi ?_ | refine zg ?_ _)); exact A.out⟩, ⟨by (with_reducible repeat (first | refine zf ?_ _ | refine zi ?_ | refine zg ?_ _)); refine blk_put (cs := #[.int .i64 bN, .int .u64 G]) ?_ 1 _ rfl; (with_reducible repeat (first | refine zf ?_ _ | refine zi ?_ | refine zg ?_ _)); refine blk_put (cs := #[.int .i64 O, .int .u64 G]) ?_ 0 _ rfl; (with_reducible repeat (first | refine zf ?_ _ | refine zi ?_ | refine zg ?_ _)); exact B.out⟩, ⟨zv7 HB.out⟩⟩
         ·rw [if_neg da] at H
          exact absurd H (by simp)
        ·rw [if_neg cK] at H
         exact absurd H (by simp)
       ·rw [if_neg bu] at H
        have cV : decide (l < (D.length : Int)) = false := decide_eq_false bu
        clear bu
        obtain ⟨q, am⟩ : ∃ j_ : Int, (wrap64 ((D.length : Int) - 1)) = j_ := ⟨_, rfl⟩
        replace H : (if 0 ≤ (q) then (if (q) < (D.length : Int) then (if J ≤ 4 then (if T = (rd D (q)) then (some (O == 0 && (G == 0))) else (some false)) else ((impl_WideOf.f T).bind fun aH => ((impl_WideNeg.f aH.1 aH.2).bind fun aq => ((impl_WideAdd.f O G aq.1 aq.2).bind fun aa => (if T ≤ (rd D (q)) then ((impl_wideTimes.f k2 T (wrap64 ((wrap64 (J - 4)) - 1))).bind fun af => ((impl_WideCmp.f k2 af.1 af.2 aa.1 aa.2).bind fun ag => (if ag ≤ 0 then ((impl_wideTimes.f k2 (rd D (q)) (wrap64 ((wrap64 (J - 4)) - 1))).bind fun z => ((impl_WideCmp.f k2 aa.1 aa.2 z.1 z.2).bind fun ah => (some (decide (ah ≤ 0))))) else (some false)))) else (some false)))))) else (none)) else (none)) = some r := by first | (rw [am] at H; exact H) | (simp only [am] at H ⊢; exact H)
        have ep : (IntKind.i64.wrap ((D.length : Int) - 1)) = q := (i64_w _).trans am
        by_cases dk : 0 ≤ (q)
        ·rw [if_pos dk] at H
         have e2 : decide (0 ≤ (q)) = true := decide_eq_true dk
         clear dk
         by_cases dh : (q) < (D.length : Int)
         ·rw [if_pos dh] at H
          have eM : decide ((q) < (D.length : Int)) = true := decide_eq_true dh
          clear dh
          by_cases cd : J ≤ 4
          ·rw [if_pos cd] at H
           have dL : decide (J ≤ 4) = true := decide_eq_true cd
           clear cd
           by_cases bj : T = (rd D (q))
           ·rw [if_pos bj] at H
            have dI : (T == (rd D (q))) = true := beq_iff_eq.mpr bj
            have dO : (T != (rd D (q))) = false := bne_eq_false_iff_eq.mpr bj
            clear bj
            obtain rfl := Option.some.inj H
            have fZ := U.out
            have eQ := s.out
            have e4 := zt0 A.out
            have fM := zt1 A.out
            have fP := zt2 A.out
            have fv := zt3 A.out
            have f5 := zt4 A.out
            have fN := zt5 A.out
            have fA := zd A.out 0
            have eC := zd A.out 1
            have fI := zd A.out 2
            have eV := zd A.out 3
            have eu := zd A.out 4
            have gh := zd A.out 5
            have ae : 0 ≤ ((q) : Int) := of_decide_eq_true (by first | (with_reducible assumption) | assumption)
            have ad : (q) < (D.length : Int) := of_decide_eq_true (by first | (with_reducible assumption) | assumption)
            obtain ⟨ai, aC, u⟩ := Kd.at_int ar.out (q) ae ad
            cases aC
            replace u := (HB.out.cell (World.block_lt_of_cell? w _ u)).trans u
            replace ae := eq_true ae
            replace ad := eq_true ad
            have eA := zt0 B.out
            have fL := zt1 B.out
            have eO := zd B.out 0
            have eZ := zd B.out 1
            go_wp2
            go_ret
            exact ⟨by first | rfl | (simp [errW_none, errW_some] <;> rfl) | (simp only [← am]; first | rfl | (simp [errW_none, errW_some] <;> rfl)) | (simp [*, errW_none, errW_some] <;> rfl), zv7 HB.out⟩
           ·rw [if_neg bj] at H
            have dI : (T == (rd D (q))) = false := beq_eq_false_iff_ne.mpr bj
            have dO : (T != (rd D (q))) = true := bne_iff_ne.mpr bj
            obtain rfl := Option.some.inj H
            have fl := U.out
            have fq := s.out
            have fh := zt0 A.out
            have ez := zt1 A.out
            have eY := zt2 A.out
            have ga := zt3 A.out
            have eF := zt4 A.out
            have e8 := zt5 A.out
            have fF := zd A.out 0
            have eJ := zd A.out 1
            have fT := zd A.out 2
            have eG := zd A.out 3
            have fg := zd A.out 4
            have eK := zd A.out 5
            have ae : 0 ≤ ((q) : Int) := of_decide_eq_true (by first | (with_reducible assumption) | assumption)
            have ad : (q) < (D.length : Int) := of_decide_eq_true (by first | (with_reducible assumption) | assumption)
            obtain ⟨ai, aC, u⟩ := Kd.at_int ar.out (q) ae ad
            cases aC
            replace u := (HB.out.cell (World.block_lt_of_cell? w _ u)).trans u
            replace ae := eq_true ae
            replace ad := eq_true ad
            go_wp2
            go_ret
            exact ⟨by first | rfl | (simp [errW_none, errW_some] <;> rfl) | (simp only [← am]; first | rfl | (simp [errW_none, errW_some] <;> rfl)) | (simp [*, errW_none, errW_some] <;> rfl), zv7 HB.out⟩
          ·rw [if_neg cd] at H
           have dL : decide (J ≤ 4) = false := decide_eq_false cd
           clear cd
           replace H := zs4 H
           obtain ⟨⟨ax, aw⟩, dm, H⟩ := H
           replace H : ((impl_WideNeg.f ax aw).bind fun aq => ((impl_WideAdd.f O G aq.1 aq.2).bind fun aa => (if T ≤ (rd D (q)) then ((impl_wideTimes.f k2 T (wrap64 ((wrap64 (J - 4)) - 1))).bind fun af => ((impl_WideCmp.f k2 af.1 af.2 aa.1 aa.2).bind fun ag => (if ag ≤ 0 then ((impl_wideTimes.f k2 (rd D (q)) (wrap64 ((wrap64 (J - 4)) - 1))).bind fun z => ((impl_WideCmp.f k2 aa.1 aa.2 z.1 z.2).bind fun ah => (some (decide (ah ≤ 0))))) else (some false)))) else (some false)))) = some r := H
           have dQ := zp.mk dm
           clear dm
           replace H := zs4 H
           obtain ⟨⟨au, av⟩, dy, H⟩ := H
           replace H : ((impl_WideAdd.f O G au av).bind fun aa => (if T ≤ (rd D (q)) then ((impl_wideTimes.f k2 T (wrap64 ((wrap64 (J - 4)) - 1))).bind fun af => ((impl_WideCmp.f k2 af.1 af.2 aa.1 aa.2).bind fun ag => (if ag ≤ 0 then ((impl_wideTimes.f k2 (rd D (q)) (wrap64 ((wrap64 (J - 4)) - 1))).bind fun z => ((impl_WideCmp.f k2 aa.1 aa.2 z.1 z.2).bind fun ah => (some (decide (ah ≤ 0))))) else (some false)))) else (some false))) = some r := H
           have dK := zp.mk dy
           clear dy
           replace H := zs4 H
           obtain ⟨⟨x, y⟩, dw, H⟩ := H
           replace H : (if T ≤ (rd D (q)) then ((impl_wideTimes.f k2 T (wrap64 ((wrap64 (J - 4)) - 1))).bind fun af => ((impl_WideCmp.f k2 af.1 af.2 x y).bind fun ag => (if ag ≤ 0 then ((impl_wideTimes.f k2 (rd D (q)) (wrap64 ((wrap64 (J - 4)) - 1))).bind fun z => ((impl_WideCmp.f k2 x y z.1 z.2).bind fun ah => (some (decide (ah ≤ 0))))) else (some false)))) else (some false)) = some r := H
           have dS := zp.mk dw
           clear dw
           by_cases ca : T ≤ (rd D (q))
           ·rw [if_pos ca] at H
            have dW : decide (T ≤ (rd D (q))) = true := decide_eq_true ca
            clear ca
            replace H := zs4 H
            obtain ⟨⟨aM, aN⟩, du, H⟩ := H
            replace H : ((impl_WideCmp.f k2 aM aN x y).bind fun ag => (if ag ≤ 0 then ((impl_wideTimes.f k2 (rd D (q)) (wrap64 ((wrap64 (J - 4)) - 1))).bind fun z => ((impl_WideCmp.f k2 x y z.1 z.2).bind fun ah => (some (decide (ah ≤ 0))))) else (some false))) = some r := H
            have d6 := zp.mk du
            clear du
            replace H := zs4 H
            obtain ⟨ag, dt, H⟩ := H
            replace H : (if ag ≤ 0 then ((impl_wideTimes.f k2 (rd D (q)) (wrap64 ((wrap64 (J - 4)) - 1))).bind fun z => ((impl_WideCmp.f k2 x y z.1 z.2).bind fun ah => (some (decide (ah ≤ 0))))) else (some false)) = some r := H
            have d3 := zp.mk dt
            clear dt
            by_cases cc : ag ≤ 0
            ·rw [if_pos cc] at H
             have dC : decide (ag ≤ 0) = true := decide_eq_true cc
             clear cc
             replace H := zs4 H
             obtain ⟨⟨b2, b4⟩, dq, H⟩ := H
             replace H : ((impl_WideCmp.f k2 x y b2 b4).bind fun ah => (some (decide (ah ≤ 0)))) = some r := H
             have eI := zp.mk dq
             clear dq
             replace H := zs4 H
             obtain ⟨ah, dp, H⟩ := H
             replace H : (some (decide (ah ≤ 0))) = some r := H
             have fW := zp.mk dp
             clear dp
             obtain rfl := Option.some.inj H
             have fy := U.out
             have ew := s.out
             have eR := zt0 A.out
             have eX := zt1 A.out
             have fQ := zt2 A.out
             have gc := zt3 A.out
             have eP := zt4 A.out
             have eH := zt5 A.out
             have fc := zd A.out 0
             have ge := zd A.out 1
             have eT := zd A.out 2
             have eN := zd A.out 3
             have fj := zd A.out 4
             have gg := zd A.out 5
             have ae : 0 ≤ ((q) : Int) := of_decide_eq_true (by first | (with_reducible assumption) | assumption)
             have ad : (q) < (D.length : Int) := of_decide_eq_true (by first | (with_reducible assumption) | assumption)
             obtain ⟨ai, aC, u⟩ := Kd.at_int ar.out (q) ae ad
             cases aC
             replace u := (HB.out.cell (World.block_lt_of_cell? w _ u)).trans u
             replace ae := eq_true ae
             replace ad := eq_true ad
             try go_wp2
             replace A := zp.mk (zi A.out)
             replace B := zp.mk (zi B.out)
             replace HB := zp.mk (zb HB.out)
             refine start_ (n := 7) (S := fun w' => w'.cell? ⟨W, 0, none⟩ = some (.int .i64 O) ∧ w'.cell? ⟨W, 1, none⟩ = some (.int .u64 G) ∧ w'.cell? ⟨I, 0, none⟩ = some (.int .i64 J) ∧ w'.cell? ⟨I, 1, none⟩ = some (.int .i64 Y) ∧ w'.cell? ⟨I, 2, none⟩ = some (.int .u64 Z) ∧ w'.cell? ⟨I, 3, none⟩ = some (.int .i64 T) ∧ w'.cell? ⟨I, 4, none⟩ = some (.int .i64 X) ∧ w'.cell? ⟨I, 5, none⟩ = some (.slice (some ai) D.length ab)) (ds := [6]) (zB 7 0) (by kernel_rfl) rfl rfl ⟨(ze B.out 0).trans rfl, (ze B.out 1).trans rfl, (ze A.out 0).trans rfl, (ze A.out 1).trans rfl, (ze A.out 2).trans rfl, (ze A.out 3).trans rfl, (ze A.out 4).trans rfl, (ze A.out 5).trans rfl⟩ (fun hHeld => ?_)
             generalize wr.drew = g2 at A B HB hHeld ⊢
             refine pure_ (i := 1) (N := some 106) (v := ?_) (a' := ?_) (zB 7 2) rfl rfl (by kernel_rfl) (fun _ _ _ h => h) (Or.inl ⟨by rfl, ?_⟩) ?_ ?_
             rotate_left
             ·intro w'
              go_simp
              with_reducible rfl
             rotate_left
             ·simp only [Act.put, zs1, zs2, zs3, i64_w, i32_w]
              rfl
             refine take_ (i := 0) (N := some 105) (v := ?_) (a' := ?_) (zB 7 3) rfl rfl (by kernel_rfl) (fun _ _ _ h => h) (Or.inl ⟨by rfl, ?_⟩) hHeld ?_ ?_
             rotate_left
             ·rintro w' ⟨s0, s1, s2, s3, s4, s5, s6, s7⟩
              go_simp
              with_reducible rfl
             rotate_left
             ·simp only [Act.put, zs1, zs2, zs3, i64_w, i32_w]
              rfl
             refine take_ (i := 2) (N := some 107) (v := ?_) (a' := ?_) (zB 7 7) rfl rfl (by kernel_rfl) (fun _ _ _ h => h) (Or.inl ⟨by rfl, ?_⟩) hHeld ?_ ?_
             rotate_left
             ·rintro w' ⟨s0, s1, s2, s3, s4, s5, s6, s7⟩
              go_simp
              with_reducible rfl
             rotate_left
             ·simp only [Act.put, zs1, zs2, zs3, i64_w, i32_w]
              rfl
             refine one_ (i := 3) (N := some 108) (zB 7 15) rfl rfl (by kernel_rfl) (by decide) (fun K hK => ?_)
             refine goes_ Try.func49 (by kernel_rfl) rfl #[.int .i64 T] (by rfl) rfl rfl (by (try simp only [List.map_toArray, List.map_cons, List.map_nil]); first | done | rfl | (simp only [List.length_drop, List.length_take]; rfl)) ?_
             with_reducible refine (impl_WideOf.calls T ax aw _ dQ.out).mono ?_
             rintro e g7 ⟨rfl, hb⟩
             refine ⟨_, rfl, ?_⟩
             replace A := zp.mk (zl (zv8 A.out) hb)
             replace B := zp.mk (zl (zv8 B.out) hb)
             replace HB := zp.mk (zj (zv7 HB.out) hb)
             (try clear hb)
             (try clear hb2)
             (try clear hk)
             (try clear hi)
             refine hK.out _ _ ⟨(ze B.out 0).trans rfl, (ze B.out 1).trans rfl, (ze A.out 0).trans rfl, (ze A.out 1).trans rfl, (ze A.out 2).trans rfl, (ze A.out 3).trans rfl, (ze A.out 4).trans rfl, (ze A.out 5).trans rfl⟩ (fun hHeld => ?_)
             clear hK K
             refine norm_ (a' := ?_) ?_ ?_
             rotate_left
             ·show Act.put _ (some 108) _ = _
              simp only [Act.put, zs1, zs2, zs3, i64_w, i32_w]
              rfl
             refine one_ (i := 4) (N := some 109) (zB 7 31) rfl rfl (by kernel_rfl) (by decide) (fun K hK => ?_)
             refine goes_ Try.func48 (by kernel_rfl) rfl #[.agg #[.int .i64 ax, .int .u64 aw]] (by rfl) rfl rfl (by (try simp only [List.map_toArray, List.map_cons, List.map_nil]); first | done | rfl | (simp only [List.length_drop, List.length_take]; rfl)) ?_
             with_reducible refine (impl_WideNeg.calls ax aw au av _ dK.out).mono ?_
             rintro e g5 ⟨rfl, hb⟩
             refine ⟨_, rfl, ?_⟩
             replace A := zp.mk (zl (zv8 A.out) hb)
             replace B := zp.mk (zl (zv8 B.out) hb)
             replace HB := zp.mk (zj (zv7 HB.out) hb)
             (try clear hb)
             (try clear hb2)
             (try clear hk)
             (try clear hi)
             refine hK.out _ _ ⟨(ze B.out 0).trans rfl, (ze B.out 1).trans rfl, (ze A.out 0).trans rfl, (ze A.out 1).trans rfl, (ze A.out 2).trans rfl, (ze A.out 3).trans rfl, (ze A.out 4).trans rfl, (ze A.out 5).trans rfl⟩ (fun hHeld => ?_)
             clear hK K
             refine norm_ (a' := ?_) ?_ ?_
             rotate_left
             ·show Act.put _ (some 109) _ = _
              simp only [Act.put, zs1, zs2, zs3, i64_w, i32_w]
              rfl
             refine one_ (i := 5) (N := some 110) (zB 7 63) rfl rfl (by kernel_rfl) (by decide) (fun K hK => ?_)
             refine goes_ Try.func47 (by kernel_rfl) rfl #[.agg #[.int .i64 O, .int .u64 G], .agg #[.int .i64 au, .int .u64 av]] (by rfl) rfl rfl (by (try simp only [List.map_toArray, List.map_cons, List.map_nil]); first | done | rfl | (simp only [List.length_drop, List.length_take]; rfl)) ?_
             with_reducible refine (impl_WideAdd.calls O G au av x y _ dS.out).mono ?_
             rintro e cb ⟨rfl, hb⟩
             refine ⟨_, rfl, ?_⟩
             replace A := zp.mk (zl (zv8 A.out) hb)
             replace B := zp.mk (zl (zv8 B.out) hb)
             replace HB := zp.mk (zj (zv7 HB.out) hb)
             (try clear hb)
             (try clear hb2)
             (try clear hk)
             (try clear hi)
             refine hK.out _ _ ⟨(ze B.out 0).trans rfl, (ze B.out 1).trans rfl, (ze A.out 0).trans rfl, (ze A.out 1).trans rfl, (ze A.out 2).trans rfl, (ze A.out 3).trans rfl, (ze A.out 4).trans rfl, (ze A.out 5).trans rfl⟩ (fun hHeld => ?_)
             clear hK K
             refine norm_ (a' := ?_) ?_ ?_
             rotate_left
             ·show Act.put _ (some 110) _ = _
              simp only [Act.put, zs1, zs2, zs3, i64_w, i32_w]
              rfl
             refine last_ (i := 6) (N := none) (zB 7 127) rfl rfl (by kernel_rfl) (by decide) (fun K hK => ?_)
             have gx : cb.cell? ⟨W, 0, none⟩ = some (.int .i64 O) := (ze B.out 0).trans rfl
             have fR := zd B.out 0
             have ea := U.out
             have d5 := s.out
             have gH : cb.cell? ⟨W, 1, none⟩ = some (.int .u64 G) := (ze B.out 1).trans rfl
             have gl := zd B.out 1
             have ee := U.out
             have ed := s.out
             refine skip_ (w1 := ?_) (by rfl) rfl ?_ ?_
             rotate_left
             ·go_simp
              rfl
             refine hK.out _ _ ?_
             clear hK K
             refine done_ (by kernel_rfl) ?_
             try go_wp2
             have aQ : zp (((cb.setCell ⟨W, 0, none⟩ (.int .i64 x)).setCell ⟨W, 1, none⟩ (.int .u64 y)).heap[I]? = some (.cells #[.int .i64 J, .int .i64 Y, .int .u64 Z, .int .i64 T, .int .i64 X, .slice (some ai) D.length ab] 32 (0, 0))) := ⟨by (with_reducible repeat (first | refine zf ?_ _ | refine zi ?_ | refine zg ?_ _)); refine blk_far ?_ U.out _; (with_reducible repeat (first | refine zf ?_ _ | refine zi ?_ | refine zg ?_ _)); refine blk_far ?_ U.out _; (with_reducible repeat (first | refine zf ?_ _ | refine zi ?_ | refine zg ?_ _)); exact A.out⟩
             have aI : zp (((cb.setCell ⟨W, 0, none⟩ (.int .i64 x)).setCell ⟨W, 1, none⟩ (.int .u64 y)).heap[W]? = some (.cells #[.int .i64 x, .int .u64 y] 30 (0, 0))) := ⟨by (with_reducible repeat (first | refine zf ?_ _ | refine zi ?_ | refine zg ?_ _)); refine blk_put (cs := #[.int .i64 x, .int .u64 G]) ?_ 1 _ rfl; (with_reducible repeat (first | refine zf ?_ _ | refine zi ?_ | refine zg ?_ _)); refine blk_put (cs := #[.int .i64 O, .int .u64 G]) ?_ 0 _ rfl; (with_reducible repeat (first | refine zf ?_ _ | refine zi ?_ | refine zg ?_ _)); exact B.out⟩
             have aT : zp (Below w.heap.size w ((cb.setCell ⟨W, 0, none⟩ (.int .i64 x)).setCell ⟨W, 1, none⟩ (.int .u64 y))) := ⟨zv7 HB.out⟩
             (try clear A)
             (try clear B)
             (try clear HB)
             generalize ((cb.setCell ⟨W, 0, none⟩ (.int .i64 x)).setCell ⟨W, 1, none⟩ (.int .u64 y)) = eU at aQ aI aT ⊢
             have A := aQ
             have B := aI
             have HB := aT
             clear aQ aI aT
             replace A := zp.mk (zi A.out)
             replace B := zp.mk (zi B.out)
             replace HB := zp.mk (zb HB.out)
             refine start_ (n := 22) (S := fun w' => w'.cell? ⟨I, 0, none⟩ = some (.int .i64 J) ∧ w'.cell? ⟨I, 1, none⟩ = some (.int .i64 Y) ∧ w'.cell? ⟨I, 2, none⟩ = some (.int .u64 Z) ∧ w'.cell? ⟨I, 3, none⟩ = some (.int .i64 T) ∧ w'.cell? ⟨I, 4, none⟩ = some (.int .i64 X) ∧ w'.cell? ⟨I, 5, none⟩ = some (.slice (some ai) D.length ab) ∧ w'.cell? ⟨W, 0, none⟩ = some (.int .i64 x) ∧ w'.cell? ⟨W, 1, none⟩ = some (.int .u64 y)) (ds := []) (zB 22 0) (by kernel_rfl) rfl rfl ⟨(ze A.out 0).trans rfl, (ze A.out 1).trans rfl, (ze A.out 2).trans rfl, (ze A.out 3).trans rfl, (ze A.out 4).trans rfl, (ze A.out 5).trans rfl, (ze B.out 0).trans rfl, (ze B.out 1).trans rfl⟩ (fun hHeld => ?_); refine with_tabW impl_isAgg.tab18 impl_isAgg.bits18 (fun HT_ HW_ => ?_)
             generalize eU.drew = gR at A B HB hHeld ⊢
             refine zP 0 111 (zB 22 1) HT_ ?_
             refine zP 2 113 (zB 22 5) HT_ ?_
             refine zT 1 112 (zB 22 7) HT_ HW_ hHeld ?_
             refine zP 3 114 (zB 22 15) HT_ ?_
             refine zP 4 115 (zB 22 31) HT_ ?_
             refine zP 5 116 (zB 22 63) HT_ ?_
             refine zP 7 118 (zB 22 191) HT_ ?_
             refine zT 6 117 (zB 22 255) HT_ HW_ hHeld ?_
             refine zT 9 120 (zB 22 767) HT_ HW_ hHeld ?_
             refine one_ (i := 8) (N := some 119) (zB 22 1023) rfl rfl (one_of HT_.out (by kernel_rfl)) (by decide) (fun K hK => ?_)
             refine goes_ Try.func51 (by kernel_rfl) rfl #[.int .i64 T, .int .i64 (wrap64 ((wrap64 (J - 4)) - 1))] (by rfl) rfl rfl (by (try simp only [List.map_toArray, List.map_cons, List.map_nil]); first | done | rfl | (simp only [List.length_drop, List.length_take]; rfl)) ?_
             with_reducible refine (impl_wideTimes.calls k2 T (wrap64 ((wrap64 (J - 4)) - 1)) aM aN _ d6.out).mono ?_
             rintro e gT ⟨rfl, hb⟩
             refine ⟨_, rfl, ?_⟩
             replace A := zp.mk (zl (zv8 A.out) hb)
             replace B := zp.mk (zl (zv8 B.out) hb)
             replace HB := zp.mk (zj (zv7 HB.out) hb)
             (try clear hb)
             (try clear hb2)
             (try clear hk)
             (try clear hi)
             refine hK.out _ _ ⟨(ze A.out 0).trans rfl, (ze A.out 1).trans rfl, (ze A.out 2).trans rfl, (ze A.out 3).trans rfl, (ze A.out 4).trans rfl, (ze A.out 5).trans rfl, (ze B.out 0).trans rfl, (ze B.out 1).trans rfl⟩ (fun hHeld => ?_)
             clear hK K
             refine norm_ (a' := ?_) ?_ ?_
             rotate_left
             ·show Act.put _ (some 119) _ = _
              simp only [Act.put, zs1, zs2, zs3, i64_w, i32_w]
              rfl
             refine one_ (i := 10) (N := some 121) (zB 22 2047) rfl rfl (one_of HT_.out (by kernel_rfl)) (by decide) (fun K hK => ?_)
             refine goes_ Try.func50 (by kernel_rfl) rfl #[.agg #[.int .i64 aM, .int .u64 aN], .agg #[.int .i64 x, .int .u64 y]] (by rfl) rfl rfl (by (try simp only [List.map_toArray, List.map_cons, List.map_nil]); first | done | rfl | (simp only [List.length_drop, List.length_take]; rfl)) ?_
             with_reducible refine (impl_WideCmp.calls k2 aM aN x y ag _ d3.out).mono ?_
             rintro e gS ⟨rfl, hb⟩
             refine ⟨_, rfl, ?_⟩
             replace A := zp.mk (zl (zv8 A.out) hb)
             replace B := zp.mk (zl (zv8 B.out) hb)
             replace HB := zp.mk (zj (zv7 HB.out) hb)
             (try clear hb)
             (try clear hb2)
             (try clear hk)
             (try clear hi)
             refine hK.out _ _ ⟨(ze A.out 0).trans rfl, (ze A.out 1).trans rfl, (ze A.out 2).trans rfl, (ze A.out 3).trans rfl, (ze A.out 4).trans rfl, (ze A.out 5).trans rfl, (ze B.out 0).trans rfl, (ze B.out 1).trans rfl⟩ (fun hHeld => ?_)
             clear hK K
             refine norm_ (a' := ?_) ?_ ?_
             rotate_left
             ·show Act.put _ (some 121) _ = _
              simp only [Act.put, zs1, zs2, zs3, i64_w, i32_w]
              rfl
             refine zP 11 122 (zB 22 4095) HT_ ?_
             refine zP 12 123 (zB 22 8191) HT_ ?_
             refine zP 13 124 (zB 22 16383) HT_ ?_
             refine zP 15 126 (zB 22 49151) HT_ ?_
             refine zP 16 127 (zB 22 114687) HT_ ?_
             refine zT 14 125 (zB 22 131071) HT_ HW_ hHeld ?_
             refine one_ (i := 17) (N := some 128) (zB 22 262143) rfl rfl (one_of HT_.out (by kernel_rfl)) (by decide) (fun K hK => ?_)
             refine goes_ Try.func51 (by kernel_rfl) rfl #[.int .i64 (rd D (q)), .int .i64 (wrap64 ((wrap64 (J - 4)) - 1))] (by rfl) rfl rfl (by (try simp only [List.map_toArray, List.map_cons, List.map_nil]); first | done | (simp only [am]; rfl) | rfl | (simp only [List.length_drop, List.length_take]; rfl)) ?_
             with_reducible refine (impl_wideTimes.calls k2 (rd D (q)) (wrap64 ((wrap64 (J - 4)) - 1)) b2 b4 _ eI.out).mono ?_
             rintro e gX ⟨rfl, hb⟩
             refine ⟨_, rfl, ?_⟩
             replace A := zp.mk (zl (zv8 A.out) hb)
             replace B := zp.mk (zl (zv8 B.out) hb)
             replace HB := zp.mk (zj (zv7 HB.out) hb)
             (try clear hb)
             (try clear hb2)
             (try clear hk)
             (try clear hi)
             refine hK.out _ _ ⟨(ze A.out 0).trans rfl, (ze A.out 1).trans rfl, (ze A.out 2).trans rfl, (ze A.out 3).trans rfl, (ze A.out 4).trans rfl, (ze A.out 5).trans rfl, (ze B.out 0).trans rfl, (ze B.out 1).trans rfl⟩ (fun hHeld => ?_)
             clear hK K
             refine norm_ (a' := ?_) ?_ ?_
             rotate_left
             ·show Act.put _ (some 128) _ = _
              simp only [Act.put, zs1, zs2, zs3, i64_w, i32_w]
              rfl
             refine one_ (i := 18) (N := some 129) (zB 22 524287) rfl rfl (one_of HT_.out (by kernel_rfl)) (by decide) (fun K hK => ?_)
             refine goes_ Try.func50 (by kernel_rfl) rfl #[.agg #[.int .i64 x, .int .u64 y], .agg #[.int .i64 b2, .int .u64 b4]] (by rfl) rfl rfl (by (try simp only [List.map_toArray, List.map_cons, List.map_nil]); first | done | rfl | (simp only [List.length_drop, List.length_take]; rfl)) ?_
             with_reducible refine (impl_WideCmp.calls k2 x y b2 b4 ah _ fW.out).mono ?_
             rintro e g9 ⟨rfl, hb⟩
             refine ⟨_, rfl, ?_⟩
             replace A := zp.mk (zl (zv8 A.out) hb)
             replace B := zp.mk (zl (zv8 B.out) hb)
             replace HB := zp.mk (zj (zv7 HB.out) hb)
             (try clear hb)
             (try clear hb2)
             (try clear hk)
             (try clear hi)
             refine hK.out _ _ ⟨(ze A.out 0).trans rfl, (ze A.out 1).trans rfl, (ze A.out 2).trans rfl, (ze A.out 3).trans rfl, (ze A.out 4).trans rfl, (ze A.out 5).trans rfl, (ze B.out 0).trans rfl, (ze B.out 1).trans rfl⟩ (fun hHeld => ?_)
             clear hK K
             refine norm_ (a' := ?_) ?_ ?_
             rotate_left
             ·show Act.put _ (some 129) _ = _
              simp only [Act.put, zs1, zs2, zs3, i64_w, i32_w]
              rfl
             refine zP 19 130 (zB 22 1048575) HT_ ?_
             refine zP 20 131 (zB 22 2097151) HT_ ?_
             refine zP 21 2 (zB 22 4194303) HT_ ?_
             refine done_ (done_of HT_.out (by kernel_rfl)) ?_
             try go_wp2
             go_ret
             exact ⟨by first | rfl | (simp [errW_none, errW_some] <;> rfl) | (simp only [← am]; first | rfl | (simp [errW_none, errW_some] <;> rfl)) | (simp [*, errW_none, errW_some] <;> rfl), zv7 HB.out⟩
            ·rw [if_neg cc] at H
             have dC : decide (ag ≤ 0) = false := decide_eq_false cc
             clear cc
             obtain rfl := Option.some.inj H
             have e0 := U.out
             have fp := s.out
             have e1 := zt0 A.out
             have fD := zt1 A.out
             have e5 := zt2 A.out
             have fz := zt3 A.out
             have fX := zt4 A.out
             have eD := zt5 A.out
             have fB := zd A.out 0
             have fY := zd A.out 1
             have e7 := zd A.out 2
             have fV := zd A.out 3
             have fs := zd A.out 4
             have fo := zd A.out 5
             have ae : 0 ≤ ((q) : Int) := of_decide_eq_true (by first | (with_reducible assumption) | assumption)
             have ad : (q) < (D.length : Int) := of_decide_eq_true (by first | (with_reducible assumption) | assumption)
             obtain ⟨ai, aC, u⟩ := Kd.at_int ar.out (q) ae ad
             cases aC
             replace u := (HB.out.cell (World.block_lt_of_cell? w _ u)).trans u
             replace ae := eq_true ae
             replace ad := eq_true ad
             try go_wp2
             replace A := zp.mk (zi A.out)
             replace B := zp.mk (zi B.out)
             replace HB := zp.mk (zb HB.out)
             refine start_ (n := 7) (S := fun w' => w'.cell? ⟨W, 0, none⟩ = some (.int .i64 O) ∧ w'.cell? ⟨W, 1, none⟩ = some (.int .u64 G) ∧ w'.cell? ⟨I, 0, none⟩ = some (.int .i64 J) ∧ w'.cell? ⟨I, 1, none⟩ = some (.int .i64 Y) ∧ w'.cell? ⟨I, 2, none⟩ = some (.int .u64 Z) ∧ w'.cell? ⟨I, 3, none⟩ = some (.int .i64 T) ∧ w'.cell? ⟨I, 4, none⟩ = some (.int .i64 X) ∧ w'.cell? ⟨I, 5, none⟩ = some (.slice (some ai) D.length ab)) (ds := [6]) (zB 7 0) (by kernel_rfl) rfl rfl ⟨(ze B.out 0).trans rfl, (ze B.out 1).trans rfl, (ze A.out 0).trans rfl, (ze A.out 1).trans rfl, (ze A.out 2).trans rfl, (ze A.out 3).trans rfl, (ze A.out 4).trans rfl, (ze A.out 5).trans rfl⟩ (fun hHeld => ?_)
             generalize wr.drew = gW at A B HB hHeld ⊢
             refine pure_ (i := 1) (N := some 106) (v := ?_) (a' := ?_) (zB 7 2) rfl rfl (by kernel_rfl) (fun _ _ _ h => h) (Or.inl ⟨by rfl, ?_⟩) ?_ ?_
             rotate_left
             ·intro w'
              go_simp
              with_reducible rfl
             rotate_left
             ·simp only [Act.put, zs1, zs2, zs3, i64_w, i32_w]
              rfl
             refine take_ (i := 0) (N := some 105) (v := ?_) (a' := ?_) (zB 7 3) rfl rfl (by kernel_rfl) (fun _ _ _ h => h) (Or.inl ⟨by rfl, ?_⟩) hHeld ?_ ?_
             rotate_left
             ·rintro w' ⟨s0, s1, s2, s3, s4, s5, s6, s7⟩
              go_simp
              with_reducible rfl
             rotate_left
             ·simp only [Act.put, zs1, zs2, zs3, i64_w, i32_w]
              rfl
             refine take_ (i := 2) (N := some 107) (v := ?_) (a' := ?_) (zB 7 7) rfl rfl (by kernel_rfl) (fun _ _ _ h => h) (Or.inl ⟨by rfl, ?_⟩) hHeld ?_ ?_
             rotate_left
             ·rintro w' ⟨s0, s1, s2, s3, s4, s5, s6, s7⟩
              go_simp
              with_reducible rfl
             rotate_left
             ·simp only [Act.put, zs1, zs2, zs3, i64_w, i32_w]
              rfl
             refine one_ (i := 3) (N := some 108) (zB 7 15) rfl rfl (by kernel_rfl) (by decide) (fun K hK => ?_)
             refine goes_ Try.func49 (by kernel_rfl) rfl #[.int .i64 T] (by rfl) rfl rfl (by (try simp only [List.map_toArray, List.map_cons, List.map_nil]); first | done | rfl | (simp only [List.length_drop, List.length_take]; rfl)) ?_
             with_reducible refine (impl_WideOf.calls T ax aw _ dQ.out).mono ?_
             rintro e gP ⟨rfl, hb⟩
             refine ⟨_, rfl, ?_⟩
             replace A := zp.mk (zl (zv8 A.out) hb)
             replace B := zp.mk (zl (zv8 B.out) hb)
             replace HB := zp.mk (zj (zv7 HB.out) hb)
             (try clear hb)
             (try clear hb2)
             (try clear hk)
             (try clear hi)
             refine hK.out _ _ ⟨(ze B.out 0).trans rfl, (ze B.out 1).trans rfl, (ze A.out 0).trans rfl, (ze A.out 1).trans rfl, (ze A.out 2).trans rfl, (ze A.out 3).trans rfl, (ze A.out 4).trans rfl, (ze A.out 5).trans rfl⟩ (fun hHeld => ?_)
             clear hK K
             refine norm_ (a' := ?_) ?_ ?_
             rotate_left
             ·show Act.put _ (some 108) _ = _
              simp only [Act.put, zs1, zs2, zs3, i64_w, i32_w]
              rfl
             refine one_ (i := 4) (N := some 109) (zB 7 31) rfl rfl (by kernel_rfl) (by decide) (fun K hK => ?_)
             refine goes_ Try.func48 (by kernel_rfl) rfl #[.agg #[.int .i64 ax, .int .u64 aw]] (by rfl) rfl rfl (by (try simp only [List.map_toArray, List.map_cons, List.map_nil]); first | done | rfl | (simp only [List.length_drop, List.length_take]; rfl)) ?_
             with_reducible refine (impl_WideNeg.calls ax aw au av _ dK.out).mono ?_
             rintro e ha ⟨rfl, hb⟩
             refine ⟨_, rfl, ?_⟩
             replace A := zp.mk (zl (zv8 A.out) hb)
             replace B := zp.mk (zl (zv8 B.out) hb)
             replace HB := zp.mk (zj (zv7 HB.out) hb)
             (try clear hb)
             (try clear hb2)
             (try clear hk)
             (try clear hi)
             refine hK.out _ _ ⟨(ze B.out 0).trans rfl, (ze B.out 1).trans rfl, (ze A.out 0).trans rfl, (ze A.out 1).trans rfl, (ze A.out 2).trans rfl, (ze A.out 3).trans rfl, (ze A.out 4).trans rfl, (ze A.out 5).trans rfl⟩ (fun hHeld => ?_)
             clear hK K
             refine norm_ (a' := ?_) ?_ ?_
             rotate_left
             ·show Act.put _ (some 109) _ = _
              simp only [Act.put, zs1, zs2, zs3, i64_w, i32_w]
              rfl
             refine one_ (i := 5) (N := some 110) (zB 7 63) rfl rfl (by kernel_rfl) (by decide) (fun K hK => ?_)
             refine goes_ Try.func47 (by kernel_rfl) rfl #[.agg #[.int .i64 O, .int .u64 G], .agg #[.int .i64 au, .int .u64 av]] (by rfl) rfl rfl (by (try simp only [List.map_toArray, List.map_cons, List.map_nil]); first | done | rfl | (simp only [List.length_drop, List.length_take]; rfl)) ?_
             with_reducible refine (impl_WideAdd.calls O G au av x y _ dS.out).mono ?_
             rintro e b8 ⟨rfl, hb⟩
             refine ⟨_, rfl, ?_⟩
             replace A := zp.mk (zl (zv8 A.out) hb)
             replace B := zp.mk (zl (zv8 B.out) hb)
             replace HB := zp.mk (zj (zv7 HB.out) hb)
             (try clear hb)
             (try clear hb2)
             (try clear hk)
             (try clear hi)
             refine hK.out _ _ ⟨(ze B.out 0).trans rfl, (ze B.out 1).trans rfl, (ze A.out 0).trans rfl, (ze A.out 1).trans rfl, (ze A.out 2).trans rfl, (ze A.out 3).trans rfl, (ze A.out 4).trans rfl, (ze A.out 5).trans rfl⟩ (fun hHeld => ?_)
             clear hK K
             refine norm_ (a' := ?_) ?_ ?_
             rotate_left
             ·show Act.put _ (some 110) _ = _
              simp only [Act.put, zs1, zs2, zs3, i64_w, i32_w]
              rfl
             refine last_ (i := 6) (N := none) (zB 7 127) rfl rfl (by kernel_rfl) (by decide) (fun K hK => ?_)
             have gA : b8.cell? ⟨W, 0, none⟩ = some (.int .i64 O) := (ze B.out 0).trans rfl
             have ev := zd B.out 0
             have eb := U.out
             have ef := s.out
             have gy : b8.cell? ⟨W, 1, none⟩ = some (.int .u64 G) := (ze B.out 1).trans rfl
             have fd := zd B.out 1
             have ei := U.out
             have d4 := s.out
             refine skip_ (w1 := ?_) (by rfl) rfl ?_ ?_
             rotate_left
             ·go_simp
              rfl
             refine hK.out _ _ ?_
             clear hK K
             refine done_ (by kernel_rfl) ?_
             try go_wp2
             have aQ : zp (((b8.setCell ⟨W, 0, none⟩ (.int .i64 x)).setCell ⟨W, 1, none⟩ (.int .u64 y)).heap[I]? = some (.cells #[.int .i64 J, .int .i64 Y, .int .u64 Z, .int .i64 T, .int .i64 X, .slice (some ai) D.length ab] 32 (0, 0))) := ⟨by (with_reducible repeat (first | refine zf ?_ _ | refine zi ?_ | refine zg ?_ _)); refine blk_far ?_ U.out _; (with_reducible repeat (first | refine zf ?_ _ | refine zi ?_ | refine zg ?_ _)); refine blk_far ?_ U.out _; (with_reducible repeat (first | refine zf ?_ _ | refine zi ?_ | refine zg ?_ _)); exact A.out⟩
             have aI : zp (((b8.setCell ⟨W, 0, none⟩ (.int .i64 x)).setCell ⟨W, 1, none⟩ (.int .u64 y)).heap[W]? = some (.cells #[.int .i64 x, .int .u64 y] 30 (0, 0))) := ⟨by (with_reducible repeat (first | refine zf ?_ _ | refine zi ?_ | refine zg ?_ _)); refine blk_put (cs := #[.int .i64 x, .int .u64 G]) ?_ 1 _ rfl; (with_reducible repeat (first | refine zf ?_ _ | refine zi ?_ | refine zg ?_ _)); refine blk_put (cs := #[.int .i64 O, .int .u64 G]) ?_ 0 _ rfl; (with_reducible repeat (first | refine zf ?_ _ | refine zi ?_ | refine zg ?_ _)); exact B.out⟩
             have aT : zp (Below w.heap.size w ((b8.setCell ⟨W, 0, none⟩ (.int .i64 x)).setCell ⟨W, 1, none⟩ (.int .u64 y))) := ⟨zv7 HB.out⟩
             (try clear A)
             (try clear B)
             (try clear HB)
             generalize ((b8.setCell ⟨W, 0, none⟩ (.int .i64 x)).setCell ⟨W, 1, none⟩ (.int .u64 y)) = fO at aQ aI aT ⊢
             have A := aQ
             have B := aI
             have HB := aT
             clear aQ aI aT
             replace A := zp.mk (zi A.out)
             replace B := zp.mk (zi B.out)
             replace HB := zp.mk (zb HB.out)
             refine start_ (n := 22) (S := fun w' => w'.cell? ⟨I, 0, none⟩ = some (.int .i64 J) ∧ w'.cell? ⟨I, 1, none⟩ = some (.int .i64 Y) ∧ w'.cell? ⟨I, 2, none⟩ = some (.int .u64 Z) ∧ w'.cell? ⟨I, 3, none⟩ = some (.int .i64 T) ∧ w'.cell? ⟨I, 4, none⟩ = some (.int .i64 X) ∧ w'.cell? ⟨I, 5, none⟩ = some (.slice (some ai) D.length ab) ∧ w'.cell? ⟨W, 0, none⟩ = some (.int .i64 x) ∧ w'.cell? ⟨W, 1, none⟩ = some (.int .u64 y)) (ds := []) (zB 22 0) (by kernel_rfl) rfl rfl ⟨(ze A.out 0).trans rfl, (ze A.out 1).trans rfl, (ze A.out 2).trans rfl, (ze A.out 3).trans rfl, (ze A.out 4).trans rfl, (ze A.out 5).trans rfl, (ze B.out 0).trans rfl, (ze B.out 1).trans rfl⟩ (fun hHeld => ?_); refine with_tabW impl_isAgg.tab18 impl_isAgg.bits18 (fun HT_ HW_ => ?_)
             generalize fO.drew = g0 at A B HB hHeld ⊢
             refine zP 0 111 (zB 22 1) HT_ ?_
             refine zP 2 113 (zB 22 5) HT_ ?_
             refine zT 1 112 (zB 22 7) HT_ HW_ hHeld ?_
             refine zP 3 114 (zB 22 15) HT_ ?_
             refine zP 4 115 (zB 22 31) HT_ ?_
             refine zP 5 116 (zB 22 63) HT_ ?_
             refine zP 7 118 (zB 22 191) HT_ ?_
             refine zT 6 117 (zB 22 255) HT_ HW_ hHeld ?_
             refine zT 9 120 (zB 22 767) HT_ HW_ hHeld ?_
             refine one_ (i := 8) (N := some 119) (zB 22 1023) rfl rfl (one_of HT_.out (by kernel_rfl)) (by decide) (fun K hK => ?_)
             refine goes_ Try.func51 (by kernel_rfl) rfl #[.int .i64 T, .int .i64 (wrap64 ((wrap64 (J - 4)) - 1))] (by rfl) rfl rfl (by (try simp only [List.map_toArray, List.map_cons, List.map_nil]); first | done | rfl | (simp only [List.length_drop, List.length_take]; rfl)) ?_
             with_reducible refine (impl_wideTimes.calls k2 T (wrap64 ((wrap64 (J - 4)) - 1)) aM aN _ d6.out).mono ?_
             rintro e gQ ⟨rfl, hb⟩
             refine ⟨_, rfl, ?_⟩
             replace A := zp.mk (zl (zv8 A.out) hb)
             replace B := zp.mk (zl (zv8 B.out) hb)
             replace HB := zp.mk (zj (zv7 HB.out) hb)
             (try clear hb)
             (try clear hb2)
             (try clear hk)
             (try clear hi)
             refine hK.out _ _ ⟨(ze A.out 0).trans rfl, (ze A.out 1).trans rfl, (ze A.out 2).trans rfl, (ze A.out 3).trans rfl, (ze A.out 4).trans rfl, (ze A.out 5).trans rfl, (ze B.out 0).trans rfl, (ze B.out 1).trans rfl⟩ (fun hHeld => ?_)
             clear hK K
             refine norm_ (a' := ?_) ?_ ?_
             rotate_left
             ·show Act.put _ (some 119) _ = _
              simp only [Act.put, zs1, zs2, zs3, i64_w, i32_w]
              rfl
             refine one_ (i := 10) (N := some 121) (zB 22 2047) rfl rfl (one_of HT_.out (by kernel_rfl)) (by decide) (fun K hK => ?_)
             refine goes_ Try.func50 (by kernel_rfl) rfl #[.agg #[.int .i64 aM, .int .u64 aN], .agg #[.int .i64 x, .int .u64 y]] (by rfl) rfl rfl (by (try simp only [List.map_toArray, List.map_cons, List.map_nil]); first | done | rfl | (simp only [List.length_drop, List.length_take]; rfl)) ?_
             with_reducible refine (impl_WideCmp.calls k2 aM aN x y ag _ d3.out).mono ?_
             rintro e g3 ⟨rfl, hb⟩
             refine ⟨_, rfl, ?_⟩
             replace A := zp.mk (zl (zv8 A.out) hb)
             replace B := zp.mk (zl (zv8 B.out) hb)
             replace HB := zp.mk (zj (zv7 HB.out) hb)
             (try clear hb)
             (try clear hb2)
             (try clear hk)
             (try clear hi)
             refine hK.out _ _ ⟨(ze A.out 0).trans rfl, (ze A.out 1).trans rfl, (ze A.out 2).trans rfl, (ze A.out 3).trans rfl, (ze A.out 4).trans rfl, (ze A.out 5).trans rfl, (ze B.out 0).trans rfl, (ze B.out 1).trans rfl⟩ (fun hHeld => ?_)
             clear hK K
             refine norm_ (a' := ?_) ?_ ?_
             rotate_left
             ·show Act.put _ (some 121) _ = _
              simp only [Act.put, zs1, zs2, zs3, i64_w, i32_w]
              rfl
             refine zP 11 122 (zB 22 4095) HT_ ?_
             refine zP 12 123 (zB 22 8191) HT_ ?_
             refine zP 13 124 (zB 22 16383) HT_ ?_
             refine zU 14 125 (zB 22 32767) HT_ ?_
             refine zU 15 126 (zB 22 65535) HT_ ?_
             refine zU 16 127 (zB 22 131071) HT_ ?_
             refine zU 17 128 (zB 22 262143) HT_ ?_
             refine zU 18 129 (zB 22 524287) HT_ ?_
             refine zU 19 130 (zB 22 1048575) HT_ ?_
             refine zP 20 131 (zB 22 2097151) HT_ ?_
             refine zP 21 2 (zB 22 4194303) HT_ ?_
             refine done_ (done_of HT_.out (by kernel_rfl)) ?_
             try go_wp2
             go_ret
             exact ⟨by first | rfl | (simp [errW_none, errW_some] <;> rfl) | (simp only [← am]; first | rfl | (simp [errW_none, errW_some] <;> rfl)) | (simp [*, errW_none, errW_some] <;> rfl), zv7 HB.out⟩
           ·rw [if_neg ca] at H
            have dW : decide (T ≤ (rd D (q))) = false := decide_eq_false ca
            clear ca
            obtain rfl := Option.some.inj H
            have fS := U.out
            have ff := s.out
            have eS := zt0 A.out
            have fG := zt1 A.out
            have fC := zt2 A.out
            have eW := zt3 A.out
            have fk := zt4 A.out
            have fx := zt5 A.out
            have eE := zd A.out 0
            have e9 := zd A.out 1
            have ft := zd A.out 2
            have gi := zd A.out 3
            have fU := zd A.out 4
            have fw := zd A.out 5
            have ae : 0 ≤ ((q) : Int) := of_decide_eq_true (by first | (with_reducible assumption) | assumption)
            have ad : (q) < (D.length : Int) := of_decide_eq_true (by first | (with_reducible assumption) | assumption)
            obtain ⟨ai, aC, u⟩ := Kd.at_int ar.out (q) ae ad
            cases aC
            replace u := (HB.out.cell (World.block_lt_of_cell? w _ u)).trans u
            replace ae := eq_true ae
            replace ad := eq_true ad
            try go_wp2
            replace A := zp.mk (zi A.out)
            replace B := zp.mk (zi B.out)
            replace HB := zp.mk (zb HB.out)
            refine start_ (n := 7) (S := fun w' => w'.cell? ⟨W, 0, none⟩ = some (.int .i64 O) ∧ w'.cell? ⟨W, 1, none⟩ = some (.int .u64 G) ∧ w'.cell? ⟨I, 0, none⟩ = some (.int .i64 J) ∧ w'.cell? ⟨I, 1, none⟩ = some (.int .i64 Y) ∧ w'.cell? ⟨I, 2, none⟩ = some (.int .u64 Z) ∧ w'.cell? ⟨I, 3, none⟩ = some (.int .i64 T) ∧ w'.cell? ⟨I, 4, none⟩ = some (.int .i64 X) ∧ w'.cell? ⟨I, 5, none⟩ = some (.slice (some ai) D.length ab)) (ds := [6]) (zB 7 0) (by kernel_rfl) rfl rfl ⟨(ze B.out 0).trans rfl, (ze B.out 1).trans rfl, (ze A.out 0).trans rfl, (ze A.out 1).trans rfl, (ze A.out 2).trans rfl, (ze A.out 3).trans rfl, (ze A.out 4).trans rfl, (ze A.out 5).trans rfl⟩ (fun hHeld => ?_)
            generalize wr.drew = gO at A B HB hHeld ⊢
            refine pure_ (i := 1) (N := some 106) (v := ?_) (a' := ?_) (zB 7 2) rfl rfl (by kernel_rfl) (fun _ _ _ h => h) (Or.inl ⟨by rfl, ?_⟩) ?_ ?_
            rotate_left
            ·intro w'
             go_simp
             with_reducible rfl
            rotate_left
            ·simp only [Act.put, zs1, zs2, zs3, i64_w, i32_w]
             rfl
            refine take_ (i := 0) (N := some 105) (v := ?_) (a' := ?_) (zB 7 3) rfl rfl (by kernel_rfl) (fun _ _ _ h => h) (Or.inl ⟨by rfl, ?_⟩) hHeld ?_ ?_
            rotate_left
            ·rintro w' ⟨s0, s1, s2, s3, s4, s5, s6, s7⟩
             go_simp
             with_reducible rfl
            rotate_left
            ·simp only [Act.put, zs1, zs2, zs3, i64_w, i32_w]
             rfl
            refine take_ (i := 2) (N := some 107) (v := ?_) (a' := ?_) (zB 7 7) rfl rfl (by kernel_rfl) (fun _ _ _ h => h) (Or.inl ⟨by rfl, ?_⟩) hHeld ?_ ?_
            rotate_left
            ·rintro w' ⟨s0, s1, s2, s3, s4, s5, s6, s7⟩
             go_simp
             with_reducible rfl
            rotate_left
            ·simp only [Act.put, zs1, zs2, zs3, i64_w, i32_w]
             rfl
            refine one_ (i := 3) (N := some 108) (zB 7 15) rfl rfl (by kernel_rfl) (by decide) (fun K hK => ?_)
            refine goes_ Try.func49 (by kernel_rfl) rfl #[.int .i64 T] (by rfl) rfl rfl (by (try simp only [List.map_toArray, List.map_cons, List.map_nil]); first | done | rfl | (simp only [List.length_drop, List.length_take]; rfl)) ?_
            with_reducible refine (impl_WideOf.calls T ax aw _ dQ.out).mono ?_
            rintro e gV ⟨rfl, hb⟩
            refine ⟨_, rfl, ?_⟩
            replace A := zp.mk (zl (zv8 A.out) hb)
            replace B := zp.mk (zl (zv8 B.out) hb)
            replace HB := zp.mk (zj (zv7 HB.out) hb)
            (try clear hb)
            (try clear hb2)
            (try clear hk)
            (try clear hi)
            refine hK.out _ _ ⟨(ze B.out 0).trans rfl, (ze B.out 1).trans rfl, (ze A.out 0).trans rfl, (ze A.out 1).trans rfl, (ze A.out 2).trans rfl, (ze A.out 3).trans rfl, (ze A.out 4).trans rfl, (ze A.out 5).trans rfl⟩ (fun hHeld => ?_)
            clear hK K
            refine norm_ (a' := ?_) ?_ ?_
            rotate_left
            ·show Act.put _ (some 108) _ = _
             simp only [Act.put, zs1, zs2, zs3, i64_w, i32_w]
             rfl
            refine one_ (i := 4) (N := some 109) (zB 7 31) rfl rfl (by kernel_rfl) (by decide) (fun K hK => ?_)
            refine goes_ Try.func48 (by kernel_rfl) rfl #[.agg #[.int .i64 ax, .int .u64 aw]] (by rfl) rfl rfl (by (try simp only [List.map_toArray, List.map_cons, List.map_nil]); first | done | rfl | (simp only [List.length_drop, List.length_take]; rfl)) ?_
            with_reducible refine (impl_WideNeg.calls ax aw au av _ dK.out).mono ?_
            rintro e gK ⟨rfl, hb⟩
            refine ⟨_, rfl, ?_⟩
            replace A := zp.mk (zl (zv8 A.out) hb)
            replace B := zp.mk (zl (zv8 B.out) hb)
            replace HB := zp.mk (zj (zv7 HB.out) hb)
            (try clear hb)
            (try clear hb2)
            (try clear hk)
            (try clear hi)
            refine hK.out _ _ ⟨(ze B.out 0).trans rfl, (ze B.out 1).trans rfl, (ze A.out 0).trans rfl, (ze A.out 1).trans rfl, (ze A.out 2).trans rfl, (ze A.out 3).trans rfl, (ze A.out 4).trans rfl, (ze A.out 5).trans rfl⟩ (fun hHeld => ?_)
            clear hK K
            refine norm_ (a' := ?_) ?_ ?_
            rotate_left
            ·show Act.put _ (some 109) _ = _
             simp only [Act.put, zs1, zs2, zs3, i64_w, i32_w]
             rfl
            refine one_ (i := 5) (N := some 110) (zB 7 63) rfl rfl (by kernel_rfl) (by decide) (fun K hK => ?_)
            refine goes_ Try.func47 (by kernel_rfl) rfl #[.agg #[.int .i64 O, .int .u64 G], .agg #[.int .i64 au, .int .u64 av]] (by rfl) rfl rfl (by (try simp only [List.map_toArray, List.map_cons, List.map_nil]); first | done | rfl | (simp only [List.length_drop, List.length_take]; rfl)) ?_
            with_reducible refine (impl_WideAdd.calls O G au av x y _ dS.out).mono ?_
            rintro e aY ⟨rfl, hb⟩
            refine ⟨_, rfl, ?_⟩
            replace A := zp.mk (zl (zv8 A.out) hb)
            replace B := zp.mk (zl (zv8 B.out) hb)
            replace HB := zp.mk (zj (zv7 HB.out) hb)
            (try clear hb)
            (try clear hb2)
            (try clear hk)
            (try clear hi)
            refine hK.out _ _ ⟨(ze B.out 0).trans rfl, (ze B.out 1).trans rfl, (ze A.out 0).trans rfl, (ze A.out 1).trans rfl, (ze A.out 2).trans rfl, (ze A.out 3).trans rfl, (ze A.out 4).trans rfl, (ze A.out 5).trans rfl⟩ (fun hHeld => ?_)
            clear hK K
            refine norm_ (a' := ?_) ?_ ?_
            rotate_left
            ·show Act.put _ (some 110) _ = _
             simp only [Act.put, zs1, zs2, zs3, i64_w, i32_w]
             rfl
            refine last_ (i := 6) (N := none) (zB 7 127) rfl rfl (by kernel_rfl) (by decide) (fun K hK => ?_)
            have fe : aY.cell? ⟨W, 0, none⟩ = some (.int .i64 O) := (ze B.out 0).trans rfl
            have em := zd B.out 0
            have d1 := U.out
            have d0 := s.out
            have ey : aY.cell? ⟨W, 1, none⟩ = some (.int .u64 G) := (ze B.out 1).trans rfl
            have es := zd B.out 1
            have d2 := U.out
            have dZ := s.out
            refine skip_ (w1 := ?_) (by rfl) rfl ?_ ?_
            rotate_left
            ·go_simp
             rfl
            refine hK.out _ _ ?_
            clear hK K
            refine done_ (by kernel_rfl) ?_
            try go_wp2
            have aQ : zp (((aY.setCell ⟨W, 0, none⟩ (.int .i64 x)).setCell ⟨W, 1, none⟩ (.int .u64 y)).heap[I]? = some (.cells #[.int .i64 J, .int .i64 Y, .int .u64 Z, .int .i64 T, .int .i64 X, .slice (some ai) D.length ab] 32 (0, 0))) := ⟨by (with_reducible repeat (first | refine zf ?_ _ | refine zi ?_ | refine zg ?_ _)); refine blk_far ?_ U.out _; (with_reducible repeat (first | refine zf ?_ _ | refine zi ?_ | refine zg ?_ _)); refine blk_far ?_ U.out _; (with_reducible repeat (first | refine zf ?_ _ | refine zi ?_ | refine zg ?_ _)); exact A.out⟩
            have aI : zp (((aY.setCell ⟨W, 0, none⟩ (.int .i64 x)).setCell ⟨W, 1, none⟩ (.int .u64 y)).heap[W]? = some (.cells #[.int .i64 x, .int .u64 y] 30 (0, 0))) := ⟨by (with_reducible repeat (first | refine zf ?_ _ | refine zi ?_ | refine zg ?_ _)); refine blk_put (cs := #[.int .i64 x, .int .u64 G]) ?_ 1 _ rfl; (with_reducible repeat (first | refine zf ?_ _ | refine zi ?_ | refine zg ?_ _)); refine blk_put (cs := #[.int .i64 O, .int .u64 G]) ?_ 0 _ rfl; (with_reducible repeat (first | refine zf ?_ _ | refine zi ?_ | refine zg ?_ _)); exact B.out⟩
            have aT : zp (Below w.heap.size w ((aY.setCell ⟨W, 0, none⟩ (.int .i64 x)).setCell ⟨W, 1, none⟩ (.int .u64 y))) := ⟨zv7 HB.out⟩
            (try clear A)
            (try clear B)
            (try clear HB)
            generalize ((aY.setCell ⟨W, 0, none⟩ (.int .i64 x)).setCell ⟨W, 1, none⟩ (.int .u64 y)) = eh at aQ aI aT ⊢
            have A := aQ
            have B := aI
            have HB := aT
            clear aQ aI aT
            replace A := zp.mk (zi A.out)
            replace B := zp.mk (zi B.out)
            replace HB := zp.mk (zb HB.out)
            refine start_ (n := 22) (S := fun w' => w'.cell? ⟨I, 0, none⟩ = some (.int .i64 J) ∧ w'.cell? ⟨I, 1, none⟩ = some (.int .i64 Y) ∧ w'.cell? ⟨I, 2, none⟩ = some (.int .u64 Z) ∧ w'.cell? ⟨I, 3, none⟩ = some (.int .i64 T) ∧ w'.cell? ⟨I, 4, none⟩ = some (.int .i64 X) ∧ w'.cell? ⟨I, 5, none⟩ = some (.slice (some ai) D.length ab)) (ds := []) (zB 22 0) (by kernel_rfl) rfl rfl ⟨(ze A.out 0).trans rfl, (ze A.out 1).trans rfl, (ze A.out 2).trans rfl, (ze A.out 3).trans rfl, (ze A.out 4).trans rfl, (ze A.out 5).trans rfl⟩ (fun hHeld => ?_); refine with_tabW impl_isAgg.tab18 impl_isAgg.bits18 (fun HT_ HW_ => ?_)
            generalize eh.drew = gL at A B HB hHeld ⊢
            refine zP 0 111 (zB 22 1) HT_ ?_
            refine zP 2 113 (zB 22 5) HT_ ?_
            refine zT 1 112 (zB 22 7) HT_ HW_ hHeld ?_
            refine zP 3 114 (zB 22 15) HT_ ?_
            refine zP 4 115 (zB 22 31) HT_ ?_
            refine zU 5 116 (zB 22 63) HT_ ?_
            refine zU 6 117 (zB 22 127) HT_ ?_
            refine zU 7 118 (zB 22 255) HT_ ?_
            refine zU 8 119 (zB 22 511) HT_ ?_
            refine zU 9 120 (zB 22 1023) HT_ ?_
            refine zU 10 121 (zB 22 2047) HT_ ?_
            refine zU 11 122 (zB 22 4095) HT_ ?_
            refine zP 12 123 (zB 22 8191) HT_ ?_
            refine zP 13 124 (zB 22 16383) HT_ ?_
            refine zU 14 125 (zB 22 32767) HT_ ?_
            refine zU 15 126 (zB 22 65535) HT_ ?_
            refine zU 16 127 (zB 22 131071) HT_ ?_
            refine zU 17 128 (zB 22 262143) HT_ ?_
            refine zU 18 129 (zB 22 524287) HT_ ?_
            refine zU 19 130 (zB 22 1048575) HT_ ?_
            refine zP 20 131 (zB 22 2097151) HT_ ?_
            refine zP 21 2 (zB 22 4194303) HT_ ?_
            refine done_ (done_of HT_.out (by kernel_rfl)) ?_
            try go_wp2
            go_ret
            exact ⟨by first | rfl | (simp [errW_none, errW_some] <;> rfl) | (simp only [← am]; first | rfl | (simp [errW_none, errW_some] <;> rfl)) | (simp [*, errW_none, errW_some] <;> rfl), zv7 HB.out⟩
         ·rw [if_neg dh] at H
          exact absurd H (by simp)
        ·rw [if_neg dk] at H
         exact absurd H (by simp)

end Go.Proofs.Ytnnahpmnkpmopaa.QFnExactAggJoin
