/- Proved: calls of the program come to the answers of the plain Lean functions that stand beside them. Each contract names its conditions. (Written by a program of this session, over the printer of the kit.) -/
import Derived.Test.YtnnahpmnkpmopaaZAggDoneQFnExactAggDonex0
import Derived.Test.YtnnahpmnkpmopaaZAggDoneQFnExactAggDonex4
import Derived.Test.YtnnahpmnkpmopaaZAggDoneQFnExactAggDonex5
import Derived.Test.YtnnahpmnkpmopaaZAggDoneQFnExactAggDonex6
namespace Go.Proofs.Ytnnahpmnkpmopaa.QFnExactAggDone
open Go.RowKit Go.Proofs.YtnnahpmnkpmopaaW.PrintWords Go.Proofs.YtnnahpmnkpmopaaW.PrintLast Go.Proofs.YtnnahpmnkpmopaaW.PrintMore
attribute [local go_sem] max2_int min2_int max_two min_two max_three min_three max_four min_four   -- for this text's walks alone
set_option linter.unusedVariables false
set_option linter.unusedSimpArgs false

/-! ### spec_WideMean: function 38 -/
def spec_WideMean.j0 : Nat → Int → Bool → Int → Int → Option (Int × Bool)
 | 0, _, _, _, _ => none
 | k + 1, x1, x16, x243000, x243001 => if x16 = true then (some (0, false)) else (if x243000 ≥ 0 then ((spec_l02Bits.f k x243000 x243001).bind fun t243 => ((spec_l02Divide.f k t243 x1).bind fun bt246 => ((spec_l02Wide.f k bt246.1).bind fun bt250 => ((spec_WideInt.f bt250.1 bt250.2).bind fun bt252 => (some (bt252.1, bt252.2)))))) else ((spec_WideNeg.f x243000 x243001).bind fun bt254 => ((spec_l02Bits.f k bt254.1 bt254.2).bind fun t256 => ((spec_l02Divide.f k t256 x1).bind fun bt259 => ((spec_l02Wide.f k bt259.1).bind fun bt263 => ((spec_WideNeg.f bt263.1 bt263.2).bind fun bt265 => (if bt259.2 > 0 then ((spec_WideOf.f (-1)).bind fun bt268 => ((spec_WideAdd.f bt265.1 bt265.2 bt268.1 bt268.2).bind fun bt270 => ((spec_WideInt.f bt270.1 bt270.2).bind fun bt272 => (some (bt272.1, bt272.2))))) else ((spec_WideInt.f bt265.1 bt265.2).bind fun bt274 => (some (bt274.1, bt274.2))))))))))
def spec_WideMean.f (k : Nat) (a0_0 : Int) (a0_1 : Int) (a1 : Int) : Option (Int × Bool) := if a1 < 1 then (spec_WideMean.j0 k a1 true a0_0 a0_1) else (spec_WideMean.j0 k a1 (decide (a1 > 1000000)) a0_0 a0_1)
set_option maxHeartbeats 8000000 in
set_option maxRecDepth 100000 in
theorem spec_WideMean.calls (k : Nat) (a0_0 : Int) (a0_1 : Int) (a1 : Int) (r1 : Int) (r2 : Bool) (w : World) (h : spec_WideMean.f k a0_0 a0_1 a1 = some (r1, r2)) :
  Calls Try.prog 38 #[.agg #[.int .i64 a0_0, .int .u64 a0_1], .int .i64 a1] w fun e w' => e = .returned (.tuple #[.int .i64 r1, .bool r2]) ∧ Below w.heap.size w w' := by
 have hu30 := Try.underlying30
 have HB := zp.mk (Below.refl w.heap.size w)
 have H : (if a1 < 1 then (spec_WideMean.j0 k a1 true a0_0 a0_1) else (spec_WideMean.j0 k a1 (decide (a1 > 1000000)) a0_0 a0_1)) = some (r1, r2) := h
 clear h
 have HC3 := zp.mk H
 clear H
 go_enter Try.func38, Try.ntmps38
 go_upto_region 1 with (first | ((with_reducible refine zo (N := 2) rfl ?_); refine zm ?hg (N := 2) ?hd (cs := #[.int .i64 a0_0, .int .u64 a0_1]) (t := 30) ?hr ?_; (case hd => rfl); (case hg => rfl); (case hr => first | (go_simp; done) | (go_simp; rfl)); intro gb242 hg w4 hbox hb; have BK242 := zp.mk (hbox); have GW242 := zp.mk ((zv3 (zv6 HB.out) hg)); have GE242 := zp.mk ((zv3 (zv6 HB.out) hg)); replace HB := zp.mk (zj (zv6 HB.out) hb); clear hb hbox hg))
 (try simp only [Act.put, zs1, zs2, zs3])
 go_cut [16] (fun v16 wc => ∃ (kq : Nat) (x16_2 : Bool), v16 = .bool x16_2 ∧ zp (spec_WideMean.j0 kq a1 x16_2 a0_0 a0_1 = some (r1, r2)) ∧ zp (kq ≤ k) ∧ zp (wc.heap[gb242]? = some (.cells #[.int .i64 a0_0, .int .u64 a0_1] 30 (0, 0))) ∧ zp (Below w.heap.size w wc))
 case first =>
  have H := HC3.out
  clear HC3
  by_cases c5 : a1 < 1
  ·rw [if_pos c5] at H
   have c5b0 : decide (a1 < 1) = true := decide_eq_true c5
   clear c5
   (first | rw [c5b0] | (simp only [i64_w, i32_w]; rw [c5b0]) | skip)
   have H' := zp.mk H
   clear H
   go_wp2
   go_meet
   case rel => exact ⟨_, (true), (by first | rfl | (simp; done) | (simp [*]; done)), H', ⟨by first | omega | exact Nat.le_refl _⟩, ⟨zv8 BK242.out⟩, ⟨zv7 HB.out⟩⟩
  ·rw [if_neg c5] at H
   have c5b0 : decide (a1 < 1) = false := decide_eq_false c5
   clear c5
   (first | rw [c5b0] | (simp only [i64_w, i32_w]; rw [c5b0]) | skip)
   have H' := zp.mk H
   clear H
   go_wp2
   go_meet
   case rel => exact ⟨_, (decide (a1 > 1000000)), (by first | rfl | (simp; done) | (simp [*]; done)), H', ⟨by first | omega | exact Nat.le_refl _⟩, ⟨zv8 BK242.out⟩, ⟨zv7 HB.out⟩⟩
 case rest =>
  clear HC3
  try clear p2
  try clear c3
  try clear c5
  try clear c5b0
  obtain ⟨kq, x16_2, rfl, HA, HJ2, BK242, HB⟩ := hcut
  cases kq with
  | zero => exact absurd HA.out (by simp [spec_WideMean.j0])
  | succ kj2 =>
   have H := HA.out
   clear HA
   simp only [spec_WideMean.j0] at H
   by_cases c6 : x16_2 = true
   ·subst c6
    have H1 : (some (0, false)) = some (r1, r2) := by rw [if_pos rfl] at H; exact H
    clear H
    have H := H1
    clear H1
    simp only [Option.some.injEq, Prod.mk.injEq] at H
    obtain ⟨rfl, rfl⟩ := H
    go_wp2
    go_ret2
    exact ⟨by first | rfl | (simp [errW_none, errW_some] <;> rfl) | (simp [*, errW_none, errW_some] <;> rfl), zv7 HB.out⟩
   ·replace c6 := Bool.eq_false_iff.mpr c6
    subst c6
    have H1 : (if a0_0 ≥ 0 then ((spec_l02Bits.f kj2 a0_0 a0_1).bind fun t243 => ((spec_l02Divide.f kj2 t243 a1).bind fun bt246 => ((spec_l02Wide.f kj2 bt246.1).bind fun bt250 => ((spec_WideInt.f bt250.1 bt250.2).bind fun bt252 => (some (bt252.1, bt252.2)))))) else ((spec_WideNeg.f a0_0 a0_1).bind fun bt254 => ((spec_l02Bits.f kj2 bt254.1 bt254.2).bind fun t256 => ((spec_l02Divide.f kj2 t256 a1).bind fun bt259 => ((spec_l02Wide.f kj2 bt259.1).bind fun bt263 => ((spec_WideNeg.f bt263.1 bt263.2).bind fun bt265 => (if bt259.2 > 0 then ((spec_WideOf.f (-1)).bind fun bt268 => ((spec_WideAdd.f bt265.1 bt265.2 bt268.1 bt268.2).bind fun bt270 => ((spec_WideInt.f bt270.1 bt270.2).bind fun bt272 => (some (bt272.1, bt272.2))))) else ((spec_WideInt.f bt265.1 bt265.2).bind fun bt274 => (some (bt274.1, bt274.2)))))))))) = some (r1, r2) := by rw [if_neg (show ¬ (false = true) by decide)] at H; exact H
    clear H
    have H := H1
    clear H1
    by_cases c7 : a0_0 ≥ 0
    ·rw [if_pos c7] at H
     have c7b0 : decide (0 ≤ a0_0) = true := decide_eq_true c7
     clear c7
     replace H := zs4 H
     obtain ⟨t243, A80, H⟩ := H
     replace H : ((spec_l02Divide.f kj2 t243 a1).bind fun bt246 => ((spec_l02Wide.f kj2 bt246.1).bind fun bt250 => ((spec_WideInt.f bt250.1 bt250.2).bind fun bt252 => (some (bt252.1, bt252.2))))) = some (r1, r2) := H
     have A8 := zp.mk A80
     clear A80
     replace H := zs4 H
     obtain ⟨⟨t246, t247⟩, A90, H⟩ := H
     replace H : ((spec_l02Wide.f kj2 t246).bind fun bt250 => ((spec_WideInt.f bt250.1 bt250.2).bind fun bt252 => (some (bt252.1, bt252.2)))) = some (r1, r2) := H
     have A9 := zp.mk A90
     clear A90
     replace H := zs4 H
     obtain ⟨⟨t250, t251⟩, A100, H⟩ := H
     replace H : ((spec_WideInt.f t250 t251).bind fun bt252 => (some (bt252.1, bt252.2))) = some (r1, r2) := H
     have A10 := zp.mk A100
     clear A100
     replace H := zs4 H
     obtain ⟨⟨t252, t253⟩, A110, H⟩ := H
     replace H : (some (t252, t253)) = some (r1, r2) := H
     have A11 := zp.mk A110
     clear A110
     simp only [Option.some.injEq, Prod.mk.injEq] at H
     obtain ⟨rfl, rfl⟩ := H
     have y12_0 := zt0 BK242.out
     have y12_1 := zt1 BK242.out
     have u12_0 := zd BK242.out 0
     have u12_1 := zd BK242.out 1
     go_wp2_with (first | ((with_reducible refine zn (f := 53) rfl ?_); refine goesL_ (some 22) rfl rfl Try.func53 (by kernel_rfl) rfl #[.agg #[.int .i64 a0_0, .int .u64 a0_1]] rfl (by (try simp only [List.map_toArray, List.map_cons, List.map_nil]); first | done | rfl | (simp only [List.length_drop, List.length_take]; rfl)) ?_; (with_reducible refine (spec_l02Bits.calls kj2 a0_0 a0_1 t243 _ A8.out).mono ?_); rintro e w13 ⟨v244, rfl, ho0, hb⟩; refine ⟨_, rfl, ?_⟩; have HO245 := zp.mk (Kd.R_lower ho0 (zk (zv7 HB.out))); replace BK242 := zp.mk (zl (zv8 BK242.out) hb); replace HB := zp.mk (zj (zv7 HB.out) hb); (try clear hb); (try clear hb2); (try clear hk); (try clear hi); (try clear ho0); obtain ⟨Ao14, co14, eo14⟩ := Kd.R_slice HO245.out; subst eo14) | ((with_reducible refine zn (f := 52) rfl ?_); refine goesL_ (some 24) rfl rfl Try.func52 (by kernel_rfl) rfl #[.slice Ao14 t243.length co14, .int .i64 a1] rfl (by (try simp only [List.map_toArray, List.map_cons, List.map_nil]); first | done | rfl | (simp only [List.length_drop, List.length_take]; rfl)) ?_; (with_reducible refine (spec_l02Divide.calls kj2 _ _ t243 a1 t246 t247 _ ?side1 ?side2 A9.out).mono ?_); (case side1 => repeat (first | exact (Kd.R_reads' HO245.out).2.2 | (with_reducible refine Kd.zr ?_ _) | (with_reducible refine Kd.zq ?_ _) | (with_reducible refine Kd.C_drew ?_))); (case side2 => exact (Kd.R_reads' HO245.out).2.1); rintro e w15 ⟨v248, rfl, ho0, hb⟩; refine ⟨_, rfl, ?_⟩; have HO249 := zp.mk (Kd.R_lower (Kd.R_new' ho0 (Kd.R_lt (by (with_reducible repeat (first | apply Kd.R_alloc | apply Kd.R_drewN | apply Kd.R_drew)); exact HO245.out))) (zk (zv7 HB.out))); replace HO245 := zp.mk (Kd.R_elder' (by (with_reducible repeat (first | apply Kd.R_alloc | apply Kd.R_drewN | apply Kd.R_drew)); exact HO245.out) (Kd.R_base ho0) hb); replace BK242 := zp.mk (zl (zv8 BK242.out) hb); replace HB := zp.mk (zj (zv7 HB.out) hb); (try clear hb); (try clear hb2); (try clear hk); (try clear hi); (try clear ho0); obtain ⟨Ao16, co16, eo16⟩ := Kd.R_slice HO249.out; subst eo16) | ((with_reducible refine zn (f := 54) rfl ?_); refine goesL_ (some 28) rfl rfl Try.func54 (by kernel_rfl) rfl #[.slice Ao16 t246.length co16] rfl (by (try simp only [List.map_toArray, List.map_cons, List.map_nil]); first | done | rfl | (simp only [List.length_drop, List.length_take]; rfl)) ?_; (with_reducible refine (spec_l02Wide.calls kj2 _ _ t246 t250 t251 _ ?side1 ?side2 A10.out).mono ?_); (case side1 => repeat (first | exact (Kd.R_reads' HO249.out).2.2 | (with_reducible refine Kd.zr ?_ _) | (with_reducible refine Kd.zq ?_ _) | (with_reducible refine Kd.C_drew ?_))); (case side2 => exact (Kd.R_reads' HO249.out).2.1); rintro e w17 ⟨rfl, hb⟩; refine ⟨_, rfl, ?_⟩; replace HO245 := zp.mk (Kd.R_below (by (with_reducible repeat (first | apply Kd.R_alloc | apply Kd.R_drewN | apply Kd.R_drew)); exact HO245.out) hb); replace HO249 := zp.mk (Kd.R_below (by (with_reducible repeat (first | apply Kd.R_alloc | apply Kd.R_drewN | apply Kd.R_drew)); exact HO249.out) hb); replace BK242 := zp.mk (zl (zv8 BK242.out) hb); replace HB := zp.mk (zj (zv7 HB.out) hb); (try clear hb); (try clear hb2); (try clear hk); (try clear hi)) | ((with_reducible refine zn (f := 37) rfl ?_); refine goesL_ (some 29) rfl rfl Try.func37 (by kernel_rfl) rfl #[.agg #[.int .i64 t250, .int .u64 t251]] rfl (by (try simp only [List.map_toArray, List.map_cons, List.map_nil]); first | done | rfl | (simp only [List.length_drop, List.length_take]; rfl)) ?_; (with_reducible refine (spec_WideInt.calls t250 t251 t252 t253 _ A11.out).mono ?_); rintro e w18 ⟨rfl, hb⟩; refine ⟨_, rfl, ?_⟩; replace HO245 := zp.mk (Kd.R_below (by (with_reducible repeat (first | apply Kd.R_alloc | apply Kd.R_drewN | apply Kd.R_drew)); exact HO245.out) hb); replace HO249 := zp.mk (Kd.R_below (by (with_reducible repeat (first | apply Kd.R_alloc | apply Kd.R_drewN | apply Kd.R_drew)); exact HO249.out) hb); replace BK242 := zp.mk (zl (zv8 BK242.out) hb); replace HB := zp.mk (zj (zv7 HB.out) hb); (try clear hb); (try clear hb2); (try clear hk); (try clear hi)))
     go_ret2
     exact ⟨by first | rfl | (simp [errW_none, errW_some] <;> rfl) | (simp [*, errW_none, errW_some] <;> rfl), zv7 HB.out⟩
    ·rw [if_neg c7] at H
     have c7b0 : decide (0 ≤ a0_0) = false := decide_eq_false c7
     clear c7
     replace H := zs4 H
     obtain ⟨⟨t254, t255⟩, A190, H⟩ := H
     replace H : ((spec_l02Bits.f kj2 t254 t255).bind fun t256 => ((spec_l02Divide.f kj2 t256 a1).bind fun bt259 => ((spec_l02Wide.f kj2 bt259.1).bind fun bt263 => ((spec_WideNeg.f bt263.1 bt263.2).bind fun bt265 => (if bt259.2 > 0 then ((spec_WideOf.f (-1)).bind fun bt268 => ((spec_WideAdd.f bt265.1 bt265.2 bt268.1 bt268.2).bind fun bt270 => ((spec_WideInt.f bt270.1 bt270.2).bind fun bt272 => (some (bt272.1, bt272.2))))) else ((spec_WideInt.f bt265.1 bt265.2).bind fun bt274 => (some (bt274.1, bt274.2)))))))) = some (r1, r2) := H
     have A19 := zp.mk A190
     clear A190
     replace H := zs4 H
     obtain ⟨t256, A200, H⟩ := H
     replace H : ((spec_l02Divide.f kj2 t256 a1).bind fun bt259 => ((spec_l02Wide.f kj2 bt259.1).bind fun bt263 => ((spec_WideNeg.f bt263.1 bt263.2).bind fun bt265 => (if bt259.2 > 0 then ((spec_WideOf.f (-1)).bind fun bt268 => ((spec_WideAdd.f bt265.1 bt265.2 bt268.1 bt268.2).bind fun bt270 => ((spec_WideInt.f bt270.1 bt270.2).bind fun bt272 => (some (bt272.1, bt272.2))))) else ((spec_WideInt.f bt265.1 bt265.2).bind fun bt274 => (some (bt274.1, bt274.2))))))) = some (r1, r2) := H
     have A20 := zp.mk A200
     clear A200
     replace H := zs4 H
     obtain ⟨⟨t259, t260⟩, A210, H⟩ := H
     replace H : ((spec_l02Wide.f kj2 t259).bind fun bt263 => ((spec_WideNeg.f bt263.1 bt263.2).bind fun bt265 => (if t260 > 0 then ((spec_WideOf.f (-1)).bind fun bt268 => ((spec_WideAdd.f bt265.1 bt265.2 bt268.1 bt268.2).bind fun bt270 => ((spec_WideInt.f bt270.1 bt270.2).bind fun bt272 => (some (bt272.1, bt272.2))))) else ((spec_WideInt.f bt265.1 bt265.2).bind fun bt274 => (some (bt274.1, bt274.2)))))) = some (r1, r2) := H
     have A21 := zp.mk A210
     clear A210
     replace H := zs4 H
     obtain ⟨⟨t263, t264⟩, A220, H⟩ := H
     replace H : ((spec_WideNeg.f t263 t264).bind fun bt265 => (if t260 > 0 then ((spec_WideOf.f (-1)).bind fun bt268 => ((spec_WideAdd.f bt265.1 bt265.2 bt268.1 bt268.2).bind fun bt270 => ((spec_WideInt.f bt270.1 bt270.2).bind fun bt272 => (some (bt272.1, bt272.2))))) else ((spec_WideInt.f bt265.1 bt265.2).bind fun bt274 => (some (bt274.1, bt274.2))))) = some (r1, r2) := H
     have A22 := zp.mk A220
     clear A220
     replace H := zs4 H
     obtain ⟨⟨t265, t266⟩, A230, H⟩ := H
     replace H : (if t260 > 0 then ((spec_WideOf.f (-1)).bind fun bt268 => ((spec_WideAdd.f t265 t266 bt268.1 bt268.2).bind fun bt270 => ((spec_WideInt.f bt270.1 bt270.2).bind fun bt272 => (some (bt272.1, bt272.2))))) else ((spec_WideInt.f t265 t266).bind fun bt274 => (some (bt274.1, bt274.2)))) = some (r1, r2) := H
     have A23 := zp.mk A230
     clear A230
     by_cases c24 : t260 > 0
     ·rw [if_pos c24] at H
      have c24b0 : decide (0 < t260) = true := decide_eq_true c24
      clear c24
      replace H := zs4 H
      obtain ⟨⟨t268, t269⟩, A250, H⟩ := H
      replace H : ((spec_WideAdd.f t265 t266 t268 t269).bind fun bt270 => ((spec_WideInt.f bt270.1 bt270.2).bind fun bt272 => (some (bt272.1, bt272.2)))) = some (r1, r2) := H
      have A25 := zp.mk A250
      clear A250
      replace H := zs4 H
      obtain ⟨⟨t270, t271⟩, A260, H⟩ := H
      replace H : ((spec_WideInt.f t270 t271).bind fun bt272 => (some (bt272.1, bt272.2))) = some (r1, r2) := H
      have A26 := zp.mk A260
      clear A260
      replace H := zs4 H
      obtain ⟨⟨t272, t273⟩, A270, H⟩ := H
      replace H : (some (t272, t273)) = some (r1, r2) := H
      have A27 := zp.mk A270
      clear A270
      simp only [Option.some.injEq, Prod.mk.injEq] at H
      obtain ⟨rfl, rfl⟩ := H
      have y28_0 := zt0 BK242.out
      have y28_1 := zt1 BK242.out
      have u28_0 := zd BK242.out 0
      have u28_1 := zd BK242.out 1
      try go_wp2_with (first | ((with_reducible refine zn (f := 55) rfl ?_); refine goesL_ (some 34) rfl rfl Try.func55 (by kernel_rfl) rfl #[.agg #[.int .i64 a0_0, .int .u64 a0_1]] rfl (by (try simp only [List.map_toArray, List.map_cons, List.map_nil]); first | done | rfl | (simp only [List.length_drop, List.length_take]; rfl)) ?_; (with_reducible refine (spec_WideNeg.calls a0_0 a0_1 t254 t255 _ A19.out).mono ?_); rintro e w29 ⟨rfl, hb⟩; refine ⟨_, rfl, ?_⟩; replace BK242 := zp.mk (zl (zv8 BK242.out) hb); replace HB := zp.mk (zj (zv7 HB.out) hb); (try clear hb); (try clear hb2); (try clear hk); (try clear hi)) | ((with_reducible refine zn (f := 53) rfl ?_); refine goesL_ (some 35) rfl rfl Try.func53 (by kernel_rfl) rfl #[.agg #[.int .i64 t254, .int .u64 t255]] rfl (by (try simp only [List.map_toArray, List.map_cons, List.map_nil]); first | done | rfl | (simp only [List.length_drop, List.length_take]; rfl)) ?_; (with_reducible refine (spec_l02Bits.calls kj2 t254 t255 t256 _ A20.out).mono ?_); rintro e w30 ⟨v257, rfl, ho0, hb⟩; refine ⟨_, rfl, ?_⟩; have HO258 := zp.mk (Kd.R_lower ho0 (zk (zv7 HB.out))); replace BK242 := zp.mk (zl (zv8 BK242.out) hb); replace HB := zp.mk (zj (zv7 HB.out) hb); (try clear hb); (try clear hb2); (try clear hk); (try clear hi); (try clear ho0); obtain ⟨Ao31, co31, eo31⟩ := Kd.R_slice HO258.out; subst eo31) | ((with_reducible refine zn (f := 52) rfl ?_); refine goesL_ (some 37) rfl rfl Try.func52 (by kernel_rfl) rfl #[.slice Ao31 t256.length co31, .int .i64 a1] rfl (by (try simp only [List.map_toArray, List.map_cons, List.map_nil]); first | done | rfl | (simp only [List.length_drop, List.length_take]; rfl)) ?_; (with_reducible refine (spec_l02Divide.calls kj2 _ _ t256 a1 t259 t260 _ ?side1 ?side2 A21.out).mono ?_); (case side1 => repeat (first | exact (Kd.R_reads' HO258.out).2.2 | (with_reducible refine Kd.zr ?_ _) | (with_reducible refine Kd.zq ?_ _) | (with_reducible refine Kd.C_drew ?_))); (case side2 => exact (Kd.R_reads' HO258.out).2.1); rintro e w32 ⟨v261, rfl, ho0, hb⟩; refine ⟨_, rfl, ?_⟩; have HO262 := zp.mk (Kd.R_lower (Kd.R_new' ho0 (Kd.R_lt (by (with_reducible repeat (first | apply Kd.R_alloc | apply Kd.R_drewN | apply Kd.R_drew)); exact HO258.out))) (zk (zv7 HB.out))); replace HO258 := zp.mk (Kd.R_elder' (by (with_reducible repeat (first | apply Kd.R_alloc | apply Kd.R_drewN | apply Kd.R_drew)); exact HO258.out) (Kd.R_base ho0) hb); replace BK242 := zp.mk (zl (zv8 BK242.out) hb); replace HB := zp.mk (zj (zv7 HB.out) hb); (try clear hb); (try clear hb2); (try clear hk); (try clear hi); (try clear ho0); obtain ⟨Ao33, co33, eo33⟩ := Kd.R_slice HO262.out; subst eo33) | ((with_reducible refine zn (f := 54) rfl ?_); refine goesL_ (some 41) rfl rfl Try.func54 (by kernel_rfl) rfl #[.slice Ao33 t259.length co33] rfl (by (try simp only [List.map_toArray, List.map_cons, List.map_nil]); first | done | rfl | (simp only [List.length_drop, List.length_take]; rfl)) ?_; (with_reducible refine (spec_l02Wide.calls kj2 _ _ t259 t263 t264 _ ?side1 ?side2 A22.out).mono ?_); (case side1 => repeat (first | exact (Kd.R_reads' HO262.out).2.2 | (with_reducible refine Kd.zr ?_ _) | (with_reducible refine Kd.zq ?_ _) | (with_reducible refine Kd.C_drew ?_))); (case side2 => exact (Kd.R_reads' HO262.out).2.1); rintro e w34 ⟨rfl, hb⟩; refine ⟨_, rfl, ?_⟩; replace HO258 := zp.mk (Kd.R_below (by (with_reducible repeat (first | apply Kd.R_alloc | apply Kd.R_drewN | apply Kd.R_drew)); exact HO258.out) hb); replace HO262 := zp.mk (Kd.R_below (by (with_reducible repeat (first | apply Kd.R_alloc | apply Kd.R_drewN | apply Kd.R_drew)); exact HO262.out) hb); replace BK242 := zp.mk (zl (zv8 BK242.out) hb); replace HB := zp.mk (zj (zv7 HB.out) hb); (try clear hb); (try clear hb2); (try clear hk); (try clear hi)) | ((with_reducible refine zn (f := 55) rfl ?_); refine goesL_ (some 42) rfl rfl Try.func55 (by kernel_rfl) rfl #[.agg #[.int .i64 t263, .int .u64 t264]] rfl (by (try simp only [List.map_toArray, List.map_cons, List.map_nil]); first | done | rfl | (simp only [List.length_drop, List.length_take]; rfl)) ?_; (with_reducible refine (spec_WideNeg.calls t263 t264 t265 t266 _ A23.out).mono ?_); rintro e w35 ⟨rfl, hb⟩; refine ⟨_, rfl, ?_⟩; replace HO258 := zp.mk (Kd.R_below (by (with_reducible repeat (first | apply Kd.R_alloc | apply Kd.R_drewN | apply Kd.R_drew)); exact HO258.out) hb); replace HO262 := zp.mk (Kd.R_below (by (with_reducible repeat (first | apply Kd.R_alloc | apply Kd.R_drewN | apply Kd.R_drew)); exact HO262.out) hb); replace BK242 := zp.mk (zl (zv8 BK242.out) hb); replace HB := zp.mk (zj (zv7 HB.out) hb); (try clear hb); (try clear hb2); (try clear hk); (try clear hi)) | ((with_reducible refine zo (N := 10) rfl ?_); refine zm ?hg (N := 10) ?hd (cs := #[.int .i64 0, .int .u64 0]) (t := 30) ?hr ?_; (case hd => rfl); (case hg => rfl); (case hr => first | (go_simp; done) | (go_simp; rfl)); intro gb267 hg w36 hbox hb; have BK267 := zp.mk (hbox); have GW267 := zp.mk ((zv3 (zv7 HB.out) hg)); have GE267 := zp.mk ((zv3 (zv7 HB.out) hg)); have NB242_267 := zp.mk ((by rw [hg]; exact Nat.ne_of_lt (blk_lt (g := gb242) (o := .cells #[.int .i64 a0_0, .int .u64 a0_1] 30 (0, 0)) (zv8 BK242.out)) : gb242 ≠ gb267)); have NB267_242 := zp.mk ((by rw [hg]; exact Nat.ne_of_gt (blk_lt (g := gb242) (o := .cells #[.int .i64 a0_0, .int .u64 a0_1] 30 (0, 0)) (zv8 BK242.out)) : gb267 ≠ gb242)); replace HO258 := zp.mk (Kd.R_below (by (with_reducible repeat (first | apply Kd.R_alloc | apply Kd.R_drewN | apply Kd.R_drew)); exact HO258.out) hb); replace HO262 := zp.mk (Kd.R_below (by (with_reducible repeat (first | apply Kd.R_alloc | apply Kd.R_drewN | apply Kd.R_drew)); exact HO262.out) hb); replace BK242 := zp.mk (zl (zv8 BK242.out) hb); replace HB := zp.mk (zj (zv7 HB.out) hb); clear hb hbox hg; have hnb37 := NB267_242.out; have hnc37 := NB242_267.out; have y38_0 := zt0 BK267.out; have y38_1 := zt1 BK267.out; have u38_0 := zd BK267.out 0; have u38_1 := zd BK267.out 1))
      have n0_ : zp (Kd.R (Kd.int .i64) 3 ((w36.setCell ⟨gb267, 0, none⟩ (.int .i64 t265)).setCell ⟨gb267, 1, none⟩ (.int .u64 t266)) w.heap.size (fun k_ => some k_ ≠ (.slice Ao33 t259.length co33 : Value).ownBlock) (.slice Ao31 t256.length co31) t256) := ⟨by (with_reducible repeat (first | apply Kd.R_alloc | apply Kd.R_drewN | apply Kd.R_drew)); exact Kd.R_mono (Kd.R_far (p := ⟨gb267, 1, none⟩) (Kd.R_far (p := ⟨gb267, 0, none⟩) (Kd.R_types HO258.out BK267.out (by decide)) (fun _ hk => hk.2) (.int .i64 t265)) (fun _ hk => hk.2) (.int .u64 t266)) (fun _ hk => hk.1.2)⟩
      have n1_ : zp (Kd.R (Kd.int .i64) 3 ((w36.setCell ⟨gb267, 0, none⟩ (.int .i64 t265)).setCell ⟨gb267, 1, none⟩ (.int .u64 t266)) w.heap.size (fun k_ => some k_ ≠ (.slice Ao31 t256.length co31 : Value).ownBlock) (.slice Ao33 t259.length co33) t259) := ⟨by (with_reducible repeat (first | apply Kd.R_alloc | apply Kd.R_drewN | apply Kd.R_drew)); exact Kd.R_mono (Kd.R_far (p := ⟨gb267, 1, none⟩) (Kd.R_far (p := ⟨gb267, 0, none⟩) (Kd.R_types HO262.out BK267.out (by decide)) (fun _ hk => hk.2) (.int .i64 t265)) (fun _ hk => hk.2) (.int .u64 t266)) (fun _ hk => hk.1.2)⟩
      have n2_ : zp (((w36.setCell ⟨gb267, 0, none⟩ (.int .i64 t265)).setCell ⟨gb267, 1, none⟩ (.int .u64 t266)).heap[gb242]? = some (.cells #[.int .i64 a0_0, .int .u64 a0_1] 30 (0, 0))) := ⟨by (with_reducible repeat (first | refine zf ?_ _ | refine zi ?_ | refine zg ?_ _)); refine blk_far ?_ NB242_267.out _; (with_reducible repeat (first | refine zf ?_ _ | refine zi ?_ | refine zg ?_ _)); refine blk_far ?_ NB242_267.out _; (with_reducible repeat (first | refine zf ?_ _ | refine zi ?_ | refine zg ?_ _)); exact BK242.out⟩
      have n3_ : zp (((w36.setCell ⟨gb267, 0, none⟩ (.int .i64 t265)).setCell ⟨gb267, 1, none⟩ (.int .u64 t266)).heap[gb267]? = some (.cells #[.int .i64 t265, .int .u64 t266] 30 (0, 0))) := ⟨by (with_reducible repeat (first | refine zf ?_ _ | refine zi ?_ | refine zg ?_ _)); refine blk_put (cs := #[.int .i64 t265, .int .u64 0]) ?_ 1 _ rfl; (with_reducible repeat (first | refine zf ?_ _ | refine zi ?_ | refine zg ?_ _)); refine blk_put (cs := #[.int .i64 0, .int .u64 0]) ?_ 0 _ rfl; (with_reducible repeat (first | refine zf ?_ _ | refine zi ?_ | refine zg ?_ _)); exact BK267.out⟩
      have n4_ : zp (Below w.heap.size w ((w36.setCell ⟨gb267, 0, none⟩ (.int .i64 t265)).setCell ⟨gb267, 1, none⟩ (.int .u64 t266))) := ⟨zv7 HB.out⟩
      (try clear HO258)
      (try clear HO262)
      (try clear BK242)
      (try clear BK267)
      (try clear HB)
      generalize ((w36.setCell ⟨gb267, 0, none⟩ (.int .i64 t265)).setCell ⟨gb267, 1, none⟩ (.int .u64 t266)) = w39 at n0_ n1_ n2_ n3_ n4_ ⊢
      have HO258 := n0_
      have HO262 := n1_
      have BK242 := n2_
      have BK267 := n3_
      have HB := n4_
      clear n0_ n1_ n2_ n3_ n4_
      replace HO258 := zp.mk (Kd.R_drew HO258.out)
      replace HO262 := zp.mk (Kd.R_drew HO262.out)
      replace BK242 := zp.mk (zi BK242.out)
      replace BK267 := zp.mk (zi BK267.out)
      replace HB := zp.mk (zb HB.out)
      refine start_ (n := 4) (S := fun w' => w'.cell? ⟨gb267, 0, none⟩ = some (.int .i64 t265) ∧ w'.cell? ⟨gb267, 1, none⟩ = some (.int .u64 t266)) (ds := [3]) #[false, false, false, false] (by kernel_rfl) rfl rfl ⟨(ze BK267.out 0).trans rfl, (ze BK267.out 1).trans rfl⟩ (fun hHeld => ?_)
      generalize w39.drew = w40 at HO258 HO262 BK242 BK267 HB hHeld ⊢
      refine take_ (i := 0) (N := some 45) (v := ?_) (a' := ?_) #[true, false, false, false] rfl rfl (by kernel_rfl) (fun _ _ _ h => h) (Or.inl ⟨by rfl, ?_⟩) hHeld ?_ ?_
      rotate_left
      ·rintro w' ⟨s0, s1⟩
       go_simp
       with_reducible rfl
      rotate_left
      ·simp only [Act.put, zs1, zs2, zs3, i64_w, i32_w]
       rfl
      refine one_ (i := 1) (N := some 46) #[true, true, false, false] rfl rfl (by kernel_rfl) (by decide) (fun K hK => ?_)
      refine goes_ Try.func30 (by kernel_rfl) rfl #[.int .i64 (-1)] (by rfl) rfl rfl (by (try simp only [List.map_toArray, List.map_cons, List.map_nil]); first | done | rfl | (simp only [List.length_drop, List.length_take]; rfl)) ?_
      with_reducible refine (spec_WideOf.calls (-1) t268 t269 _ A25.out).mono ?_
      rintro e w41 ⟨rfl, hb⟩
      refine ⟨_, rfl, ?_⟩
      replace HO258 := zp.mk (Kd.R_below (by (with_reducible repeat (first | apply Kd.R_alloc | apply Kd.R_drewN | apply Kd.R_drew)); exact HO258.out) hb)
      replace HO262 := zp.mk (Kd.R_below (by (with_reducible repeat (first | apply Kd.R_alloc | apply Kd.R_drewN | apply Kd.R_drew)); exact HO262.out) hb)
      replace BK242 := zp.mk (zl (zv8 BK242.out) hb)
      replace BK267 := zp.mk (zl (zv8 BK267.out) hb)
      replace HB := zp.mk (zj (zv7 HB.out) hb)
      (try clear hb)
      (try clear hb2)
      (try clear hk)
      (try clear hi)
      refine hK.out _ _ ⟨(ze BK267.out 0).trans rfl, (ze BK267.out 1).trans rfl⟩ (fun hHeld => ?_)
      clear hK K
      refine norm_ (a' := ?_) ?_ ?_
      rotate_left
      ·show Act.put _ (some 46) _ = _
       simp only [Act.put, zs1, zs2, zs3, i64_w, i32_w]
       rfl
      refine one_ (i := 2) (N := some 47) #[true, true, true, false] rfl rfl (by kernel_rfl) (by decide) (fun K hK => ?_)
      refine goes_ Try.func29 (by kernel_rfl) rfl #[.agg #[.int .i64 t265, .int .u64 t266], .agg #[.int .i64 t268, .int .u64 t269]] (by rfl) rfl rfl (by (try simp only [List.map_toArray, List.map_cons, List.map_nil]); first | done | rfl | (simp only [List.length_drop, List.length_take]; rfl)) ?_
      with_reducible refine (spec_WideAdd.calls t265 t266 t268 t269 t270 t271 _ A26.out).mono ?_
      rintro e w42 ⟨rfl, hb⟩
      refine ⟨_, rfl, ?_⟩
      replace HO258 := zp.mk (Kd.R_below (by (with_reducible repeat (first | apply Kd.R_alloc | apply Kd.R_drewN | apply Kd.R_drew)); exact HO258.out) hb)
      replace HO262 := zp.mk (Kd.R_below (by (with_reducible repeat (first | apply Kd.R_alloc | apply Kd.R_drewN | apply Kd.R_drew)); exact HO262.out) hb)
      replace BK242 := zp.mk (zl (zv8 BK242.out) hb)
      replace BK267 := zp.mk (zl (zv8 BK267.out) hb)
      replace HB := zp.mk (zj (zv7 HB.out) hb)
      (try clear hb)
      (try clear hb2)
      (try clear hk)
      (try clear hi)
      refine hK.out _ _ ⟨(ze BK267.out 0).trans rfl, (ze BK267.out 1).trans rfl⟩ (fun hHeld => ?_)
      clear hK K
      refine norm_ (a' := ?_) ?_ ?_
      rotate_left
      ·show Act.put _ (some 47) _ = _
       simp only [Act.put, zs1, zs2, zs3, i64_w, i32_w]
       rfl
      refine last_ (i := 3) (N := none) #[true, true, true, true] rfl rfl (by kernel_rfl) (by decide) (fun K hK => ?_)
      have hs43 : w42.cell? ⟨gb267, 0, none⟩ = some (.int .i64 t265) := (ze BK267.out 0).trans rfl
      have hfs43 := zd BK267.out 0
      have hns43_0 := NB242_267.out
      have hms43_0 := NB267_242.out
      have hs44 : w42.cell? ⟨gb267, 1, none⟩ = some (.int .u64 t266) := (ze BK267.out 1).trans rfl
      have hfs44 := zd BK267.out 1
      have hns44_0 := NB242_267.out
      have hms44_0 := NB267_242.out
      refine skip_ (w1 := ?_) (by rfl) rfl ?_ ?_
      rotate_left
      ·go_simp
       rfl
      refine hK.out _ _ ?_
      clear hK K
      refine done_ (by kernel_rfl) ?_
      have y45_0 := zt0 BK267.out
      have y45_1 := zt1 BK267.out
      have u45_0 := zd BK267.out 0
      have u45_1 := zd BK267.out 1
      try go_wp2_with (first | ((with_reducible refine zn (f := 37) rfl ?_); refine goesL_ (some 49) rfl rfl Try.func37 (by kernel_rfl) rfl #[.agg #[.int .i64 t270, .int .u64 t271]] rfl (by (try simp only [List.map_toArray, List.map_cons, List.map_nil]); first | done | rfl | (simp only [List.length_drop, List.length_take]; rfl)) ?_; (with_reducible refine (spec_WideInt.calls t270 t271 t272 t273 _ A27.out).mono ?_); rintro e w46 ⟨rfl, hb⟩; refine ⟨_, rfl, ?_⟩; replace HO258 := zp.mk (Kd.R_below (by (with_reducible repeat (first | apply Kd.R_alloc | apply Kd.R_drewN | apply Kd.R_drew)); exact (Kd.R_mono (Kd.R_far (p := ⟨gb267, 1, none⟩) (Kd.R_far (p := ⟨gb267, 0, none⟩) (Kd.R_types HO258.out BK267.out (by decide)) (fun _ hk => hk.2) (.int .i64 t270)) (fun _ hk => hk.2) (.int .u64 t271)) (fun _ h_ => h_.1))) hb); replace HO262 := zp.mk (Kd.R_below (by (with_reducible repeat (first | apply Kd.R_alloc | apply Kd.R_drewN | apply Kd.R_drew)); exact (Kd.R_mono (Kd.R_far (p := ⟨gb267, 1, none⟩) (Kd.R_far (p := ⟨gb267, 0, none⟩) (Kd.R_types HO262.out BK267.out (by decide)) (fun _ hk => hk.2) (.int .i64 t270)) (fun _ hk => hk.2) (.int .u64 t271)) (fun _ h_ => h_.1))) hb); replace BK242 := zp.mk (zl (g := gb242) (o := .cells #[.int .i64 a0_0, .int .u64 a0_1] 30 (0, 0)) (by (with_reducible repeat (first | refine zf ?_ _ | refine zi ?_ | refine zg ?_ _)); refine blk_far ?_ NB242_267.out _; (with_reducible repeat (first | refine zf ?_ _ | refine zi ?_ | refine zg ?_ _)); refine blk_far ?_ NB242_267.out _; (with_reducible repeat (first | refine zf ?_ _ | refine zi ?_ | refine zg ?_ _)); exact BK242.out) hb); replace BK267 := zp.mk (zl (g := gb267) (o := .cells #[.int .i64 t270, .int .u64 t271] 30 (0, 0)) (by (with_reducible repeat (first | refine zf ?_ _ | refine zi ?_ | refine zg ?_ _)); refine blk_put (cs := #[.int .i64 t270, .int .u64 t266]) ?_ 1 _ rfl; (with_reducible repeat (first | refine zf ?_ _ | refine zi ?_ | refine zg ?_ _)); refine blk_put (cs := #[.int .i64 t265, .int .u64 t266]) ?_ 0 _ rfl; (with_reducible repeat (first | refine zf ?_ _ | refine zi ?_ | refine zg ?_ _)); exact BK267.out) hb); replace HB := zp.mk (zj (zv7 HB.out) hb); (try clear hb); (try clear hb2); (try clear hk); (try clear hi)))
      go_ret2
      exact ⟨by first | rfl | (simp [errW_none, errW_some] <;> rfl) | (simp [*, errW_none, errW_some] <;> rfl), zv7 HB.out⟩
     ·rw [if_neg c24] at H
      have c24b0 : decide (0 < t260) = false := decide_eq_false c24
      clear c24
      replace H := zs4 H
      obtain ⟨⟨t274, t275⟩, A470, H⟩ := H
      replace H : (some (t274, t275)) = some (r1, r2) := H
      have A47 := zp.mk A470
      clear A470
      simp only [Option.some.injEq, Prod.mk.injEq] at H
      obtain ⟨rfl, rfl⟩ := H
      have y48_0 := zt0 BK242.out
      have y48_1 := zt1 BK242.out
      have u48_0 := zd BK242.out 0
      have u48_1 := zd BK242.out 1
      go_wp2_with (first | ((with_reducible refine zn (f := 55) rfl ?_); refine goesL_ (some 34) rfl rfl Try.func55 (by kernel_rfl) rfl #[.agg #[.int .i64 a0_0, .int .u64 a0_1]] rfl (by (try simp only [List.map_toArray, List.map_cons, List.map_nil]); first | done | rfl | (simp only [List.length_drop, List.length_take]; rfl)) ?_; (with_reducible refine (spec_WideNeg.calls a0_0 a0_1 t254 t255 _ A19.out).mono ?_); rintro e w49 ⟨rfl, hb⟩; refine ⟨_, rfl, ?_⟩; replace BK242 := zp.mk (zl (zv8 BK242.out) hb); replace HB := zp.mk (zj (zv7 HB.out) hb); (try clear hb); (try clear hb2); (try clear hk); (try clear hi)) | ((with_reducible refine zn (f := 53) rfl ?_); refine goesL_ (some 35) rfl rfl Try.func53 (by kernel_rfl) rfl #[.agg #[.int .i64 t254, .int .u64 t255]] rfl (by (try simp only [List.map_toArray, List.map_cons, List.map_nil]); first | done | rfl | (simp only [List.length_drop, List.length_take]; rfl)) ?_; (with_reducible refine (spec_l02Bits.calls kj2 t254 t255 t256 _ A20.out).mono ?_); rintro e w50 ⟨v257, rfl, ho0, hb⟩; refine ⟨_, rfl, ?_⟩; have HO258 := zp.mk (Kd.R_lower ho0 (zk (zv7 HB.out))); replace BK242 := zp.mk (zl (zv8 BK242.out) hb); replace HB := zp.mk (zj (zv7 HB.out) hb); (try clear hb); (try clear hb2); (try clear hk); (try clear hi); (try clear ho0); obtain ⟨Ao51, co51, eo51⟩ := Kd.R_slice HO258.out; subst eo51) | ((with_reducible refine zn (f := 52) rfl ?_); refine goesL_ (some 37) rfl rfl Try.func52 (by kernel_rfl) rfl #[.slice Ao51 t256.length co51, .int .i64 a1] rfl (by (try simp only [List.map_toArray, List.map_cons, List.map_nil]); first | done | rfl | (simp only [List.length_drop, List.length_take]; rfl)) ?_; (with_reducible refine (spec_l02Divide.calls kj2 _ _ t256 a1 t259 t260 _ ?side1 ?side2 A21.out).mono ?_); (case side1 => repeat (first | exact (Kd.R_reads' HO258.out).2.2 | (with_reducible refine Kd.zr ?_ _) | (with_reducible refine Kd.zq ?_ _) | (with_reducible refine Kd.C_drew ?_))); (case side2 => exact (Kd.R_reads' HO258.out).2.1); rintro e w52 ⟨v261, rfl, ho0, hb⟩; refine ⟨_, rfl, ?_⟩; have HO262 := zp.mk (Kd.R_lower (Kd.R_new' ho0 (Kd.R_lt (by (with_reducible repeat (first | apply Kd.R_alloc | apply Kd.R_drewN | apply Kd.R_drew)); exact HO258.out))) (zk (zv7 HB.out))); replace HO258 := zp.mk (Kd.R_elder' (by (with_reducible repeat (first | apply Kd.R_alloc | apply Kd.R_drewN | apply Kd.R_drew)); exact HO258.out) (Kd.R_base ho0) hb); replace BK242 := zp.mk (zl (zv8 BK242.out) hb); replace HB := zp.mk (zj (zv7 HB.out) hb); (try clear hb); (try clear hb2); (try clear hk); (try clear hi); (try clear ho0); obtain ⟨Ao53, co53, eo53⟩ := Kd.R_slice HO262.out; subst eo53) | ((with_reducible refine zn (f := 54) rfl ?_); refine goesL_ (some 41) rfl rfl Try.func54 (by kernel_rfl) rfl #[.slice Ao53 t259.length co53] rfl (by (try simp only [List.map_toArray, List.map_cons, List.map_nil]); first | done | rfl | (simp only [List.length_drop, List.length_take]; rfl)) ?_; (with_reducible refine (spec_l02Wide.calls kj2 _ _ t259 t263 t264 _ ?side1 ?side2 A22.out).mono ?_); (case side1 => repeat (first | exact (Kd.R_reads' HO262.out).2.2 | (with_reducible refine Kd.zr ?_ _) | (with_reducible refine Kd.zq ?_ _) | (with_reducible refine Kd.C_drew ?_))); (case side2 => exact (Kd.R_reads' HO262.out).2.1); rintro e w54 ⟨rfl, hb⟩; refine ⟨_, rfl, ?_⟩; replace HO258 := zp.mk (Kd.R_below (by (with_reducible repeat (first | apply Kd.R_alloc | apply Kd.R_drewN | apply Kd.R_drew)); exact HO258.out) hb); replace HO262 := zp.mk (Kd.R_below (by (with_reducible repeat (first | apply Kd.R_alloc | apply Kd.R_drewN | apply Kd.R_drew)); exact HO262.out) hb); replace BK242 := zp.mk (zl (zv8 BK242.out) hb); replace HB := zp.mk (zj (zv7 HB.out) hb); (try clear hb); (try clear hb2); (try clear hk); (try clear hi)) | ((with_reducible refine zn (f := 55) rfl ?_); refine goesL_ (some 42) rfl rfl Try.func55 (by kernel_rfl) rfl #[.agg #[.int .i64 t263, .int .u64 t264]] rfl (by (try simp only [List.map_toArray, List.map_cons, List.map_nil]); first | done | rfl | (simp only [List.length_drop, List.length_take]; rfl)) ?_; (with_reducible refine (spec_WideNeg.calls t263 t264 t265 t266 _ A23.out).mono ?_); rintro e w55 ⟨rfl, hb⟩; refine ⟨_, rfl, ?_⟩; replace HO258 := zp.mk (Kd.R_below (by (with_reducible repeat (first | apply Kd.R_alloc | apply Kd.R_drewN | apply Kd.R_drew)); exact HO258.out) hb); replace HO262 := zp.mk (Kd.R_below (by (with_reducible repeat (first | apply Kd.R_alloc | apply Kd.R_drewN | apply Kd.R_drew)); exact HO262.out) hb); replace BK242 := zp.mk (zl (zv8 BK242.out) hb); replace HB := zp.mk (zj (zv7 HB.out) hb); (try clear hb); (try clear hb2); (try clear hk); (try clear hi)) | ((with_reducible refine zo (N := 10) rfl ?_); refine zm ?hg (N := 10) ?hd (cs := #[.int .i64 0, .int .u64 0]) (t := 30) ?hr ?_; (case hd => rfl); (case hg => rfl); (case hr => first | (go_simp; done) | (go_simp; rfl)); intro gb267 hg w56 hbox hb; have BK267 := zp.mk (hbox); have GW267 := zp.mk ((zv3 (zv7 HB.out) hg)); have GE267 := zp.mk ((zv3 (zv7 HB.out) hg)); have NB242_267 := zp.mk ((by rw [hg]; exact Nat.ne_of_lt (blk_lt (g := gb242) (o := .cells #[.int .i64 a0_0, .int .u64 a0_1] 30 (0, 0)) (zv8 BK242.out)) : gb242 ≠ gb267)); have NB267_242 := zp.mk ((by rw [hg]; exact Nat.ne_of_gt (blk_lt (g := gb242) (o := .cells #[.int .i64 a0_0, .int .u64 a0_1] 30 (0, 0)) (zv8 BK242.out)) : gb267 ≠ gb242)); replace HO258 := zp.mk (Kd.R_below (by (with_reducible repeat (first | apply Kd.R_alloc | apply Kd.R_drewN | apply Kd.R_drew)); exact HO258.out) hb); replace HO262 := zp.mk (Kd.R_below (by (with_reducible repeat (first | apply Kd.R_alloc | apply Kd.R_drewN | apply Kd.R_drew)); exact HO262.out) hb); replace BK242 := zp.mk (zl (zv8 BK242.out) hb); replace HB := zp.mk (zj (zv7 HB.out) hb); clear hb hbox hg; have hnb57 := NB267_242.out; have hnc57 := NB242_267.out; have y58_0 := zt0 BK267.out; have y58_1 := zt1 BK267.out; have u58_0 := zd BK267.out 0; have u58_1 := zd BK267.out 1) | ((with_reducible refine zn (f := 37) rfl ?_); refine goesL_ (some 49) rfl rfl Try.func37 (by kernel_rfl) rfl #[.agg #[.int .i64 t265, .int .u64 t266]] rfl (by (try simp only [List.map_toArray, List.map_cons, List.map_nil]); first | done | rfl | (simp only [List.length_drop, List.length_take]; rfl)) ?_; (with_reducible refine (spec_WideInt.calls t265 t266 t274 t275 _ A47.out).mono ?_); rintro e w59 ⟨rfl, hb⟩; refine ⟨_, rfl, ?_⟩; replace HO258 := zp.mk (Kd.R_below (by (with_reducible repeat (first | apply Kd.R_alloc | apply Kd.R_drewN | apply Kd.R_drew)); exact (Kd.R_mono (Kd.R_far (p := ⟨gb267, 1, none⟩) (Kd.R_far (p := ⟨gb267, 0, none⟩) (Kd.R_types HO258.out BK267.out (by decide)) (fun _ hk => hk.2) (.int .i64 t265)) (fun _ hk => hk.2) (.int .u64 t266)) (fun _ h_ => h_.1))) hb); replace HO262 := zp.mk (Kd.R_below (by (with_reducible repeat (first | apply Kd.R_alloc | apply Kd.R_drewN | apply Kd.R_drew)); exact (Kd.R_mono (Kd.R_far (p := ⟨gb267, 1, none⟩) (Kd.R_far (p := ⟨gb267, 0, none⟩) (Kd.R_types HO262.out BK267.out (by decide)) (fun _ hk => hk.2) (.int .i64 t265)) (fun _ hk => hk.2) (.int .u64 t266)) (fun _ h_ => h_.1))) hb); replace BK242 := zp.mk (zl (g := gb242) (o := .cells #[.int .i64 a0_0, .int .u64 a0_1] 30 (0, 0)) (by (with_reducible repeat (first | refine zf ?_ _ | refine zi ?_ | refine zg ?_ _)); refine blk_far ?_ NB242_267.out _; (with_reducible repeat (first | refine zf ?_ _ | refine zi ?_ | refine zg ?_ _)); refine blk_far ?_ NB242_267.out _; (with_reducible repeat (first | refine zf ?_ _ | refine zi ?_ | refine zg ?_ _)); exact BK242.out) hb); replace BK267 := zp.mk (zl (g := gb267) (o := .cells #[.int .i64 t265, .int .u64 t266] 30 (0, 0)) (by (with_reducible repeat (first | refine zf ?_ _ | refine zi ?_ | refine zg ?_ _)); refine blk_put (cs := #[.int .i64 t265, .int .u64 0]) ?_ 1 _ rfl; (with_reducible repeat (first | refine zf ?_ _ | refine zi ?_ | refine zg ?_ _)); refine blk_put (cs := #[.int .i64 0, .int .u64 0]) ?_ 0 _ rfl; (with_reducible repeat (first | refine zf ?_ _ | refine zi ?_ | refine zg ?_ _)); exact BK267.out) hb); replace HB := zp.mk (zj (zv7 HB.out) hb); (try clear hb); (try clear hb2); (try clear hk); (try clear hi)))
      go_ret2
      exact ⟨by first | rfl | (simp [errW_none, errW_some] <;> rfl) | (simp [*, errW_none, errW_some] <;> rfl), zv7 HB.out⟩

/-! ### spec_AggDone: function 13 -/
def spec_AggDone.j0 : Nat → Int → Int → Bool → Int → Int → Int → Int → Int → List Int → Option (List Int × Bool)
 | 0, _, _, _, _, _, _, _, _, _ => none
 | k + 1, x0, x1, x25, x277000, x277001, x277002, x277003, x277004, x277005 => if x25 = true then (some (([] : List Int), false)) else (if x0 = 1 then (some ((([x277000] : List Int)), false)) else (if x0 = 2 then ((spec_WideInt.f x277001 x277002).bind fun bt282 => (if bt282.2 = true then (some ((([bt282.1] : List Int)), false)) else (some (([] : List Int), true)))) else (if x0 = 3 then (some ((([x277003] : List Int)), false)) else (if x0 = 4 then (some ((([x277004] : List Int)), false)) else (if x0 = 5 then ((spec_WideMean.f k x277001 x277002 x277000).bind fun bt293 => (some ((([bt293.1] : List Int)), false))) else ((some (([] : List Int) : List Int)).bind fun y298 => (if 0 ≤ (mn x1 (x277005.length : Int)) then (if (mn x1 (x277005.length : Int)) ≤ (x277005.length : Int) then (if y298.length + (x277005.take ((mn x1 (x277005.length : Int)) : Int).toNat).length < 17592186044416 then (some ((y298 ++ (x277005.take ((mn x1 (x277005.length : Int)) : Int).toNat)), false)) else (none)) else (none)) else (none))))))))
def spec_AggDone.f (k : Nat) (a0 : Int) (a1 : Int) (a2_0 : Int) (a2_1 : Int) (a2_2 : Int) (a2_3 : Int) (a2_4 : Int) (l2_5 : List Int) : Option (List Int × Bool) := (spec_AggOk.f k a2_0 a2_1 a2_2 a2_3 a2_4 l2_5).bind fun t277 => (if t277 = true then (if a2_0 = 0 then (spec_AggDone.j0 k a0 a1 true a2_0 a2_1 a2_2 a2_3 a2_4 l2_5) else ((spec_AggKind.f a0 a1).bind fun t278 => (spec_AggDone.j0 k a0 a1 (!t278) a2_0 a2_1 a2_2 a2_3 a2_4 l2_5))) else (spec_AggDone.j0 k a0 a1 true a2_0 a2_1 a2_2 a2_3 a2_4 l2_5))
set_option maxHeartbeats 8000000 in
set_option maxRecDepth 100000 in
theorem spec_AggDone.calls (k : Nat) (a0 : Int) (a1 : Int) (a2_0 : Int) (a2_1 : Int) (a2_2 : Int) (a2_3 : Int) (a2_4 : Int) (A2_5 : Option Addr) (c2_5 : Nat) (l2_5 : List Int) (r1 : List Int) (r2 : Bool) (w : World) (hr2_5 : Kd.C (Kd.int .i64) w A2_5 l2_5.length l2_5) (hc2_5 : l2_5.length ≤ c2_5) (h : spec_AggDone.f k a0 a1 a2_0 a2_1 a2_2 a2_3 a2_4 l2_5 = some (r1, r2)) :
  Calls Try.prog 13 #[.int .i64 a0, .int .i64 a1, .agg #[.int .i64 a2_0, .int .i64 a2_1, .int .u64 a2_2, .int .i64 a2_3, .int .i64 a2_4, .slice A2_5 l2_5.length c2_5]] w fun e w' => ∃ v0_ : Value, e = .returned (.tuple #[v0_, .bool r2]) ∧ Kd.R (Kd.int .i64) 3 w' w.heap.size (fun _ => True) v0_ r1 ∧ Below w.heap.size w w' := by
 have hu32 := Try.underlying32
 have hu30 := Try.underlying30
 have HR2_5 := zp.mk hr2_5
 have HC2_5 := zp.mk hc2_5
 clear hr2_5 hc2_5
 have HB := zp.mk (Below.refl w.heap.size w)
 have H : ((spec_AggOk.f k a2_0 a2_1 a2_2 a2_3 a2_4 l2_5).bind fun t277 => (if t277 = true then (if a2_0 = 0 then (spec_AggDone.j0 k a0 a1 true a2_0 a2_1 a2_2 a2_3 a2_4 l2_5) else ((spec_AggKind.f a0 a1).bind fun t278 => (spec_AggDone.j0 k a0 a1 (!t278) a2_0 a2_1 a2_2 a2_3 a2_4 l2_5))) else (spec_AggDone.j0 k a0 a1 true a2_0 a2_1 a2_2 a2_3 a2_4 l2_5))) = some (r1, r2) := h
 clear h
 have HC4 := zp.mk H
 clear H
 go_enter Try.func13, Try.ntmps13
 go_upto_region 1 with (first | ((with_reducible refine zo (N := 5) rfl ?_); refine zm ?hg (N := 5) ?hd (cs := #[.int .i64 a2_0, .int .i64 a2_1, .int .u64 a2_2, .int .i64 a2_3, .int .i64 a2_4, .slice A2_5 l2_5.length c2_5]) (t := 32) ?hr ?_; (case hd => rfl); (case hg => rfl); (case hr => first | (go_simp; done) | (go_simp; rfl)); intro gb276 hg w5 hbox hb; have BK276 := zp.mk (hbox); have GW276 := zp.mk ((zv3 (zv6 HB.out) hg)); have GE276 := zp.mk ((zv3 (zv6 HB.out) hg)); replace HB := zp.mk (zj (zv6 HB.out) hb); clear hb hbox hg))
 (try simp only [Act.put, zs1, zs2, zs3])
 go_cut [25] (fun v25 wc => ∃ (kq : Nat) (x25_3 : Bool), v25 = .bool x25_3 ∧ zp (spec_AggDone.j0 kq a0 a1 x25_3 a2_0 a2_1 a2_2 a2_3 a2_4 l2_5 = some (r1, r2)) ∧ zp (kq ≤ k) ∧ zp (wc.heap[gb276]? = some (.cells #[.int .i64 a2_0, .int .i64 a2_1, .int .u64 a2_2, .int .i64 a2_3, .int .i64 a2_4, (.slice A2_5 l2_5.length c2_5)] 32 (0, 0))) ∧ zp (Below w.heap.size w wc))
 case first =>
  have H := HC4.out
  clear HC4
  replace H := zs4 H
  obtain ⟨t277, A60, H⟩ := H
  replace H : (if t277 = true then (if a2_0 = 0 then (spec_AggDone.j0 k a0 a1 true a2_0 a2_1 a2_2 a2_3 a2_4 l2_5) else ((spec_AggKind.f a0 a1).bind fun t278 => (spec_AggDone.j0 k a0 a1 (!t278) a2_0 a2_1 a2_2 a2_3 a2_4 l2_5))) else (spec_AggDone.j0 k a0 a1 true a2_0 a2_1 a2_2 a2_3 a2_4 l2_5)) = some (r1, r2) := H
  have A6 := zp.mk A60
  clear A60
  by_cases c7 : t277 = true
  ·subst c7
   have H1 : (if a2_0 = 0 then (spec_AggDone.j0 k a0 a1 true a2_0 a2_1 a2_2 a2_3 a2_4 l2_5) else ((spec_AggKind.f a0 a1).bind fun t278 => (spec_AggDone.j0 k a0 a1 (!t278) a2_0 a2_1 a2_2 a2_3 a2_4 l2_5))) = some (r1, r2) := by rw [if_pos rfl] at H; exact H
   clear H
   have H := H1
   clear H1
   by_cases c8 : a2_0 = 0
   ·rw [if_pos c8] at H
    have c8b0 : (a2_0 == 0) = true := beq_iff_eq.mpr c8
    have c8b1 : (a2_0 != 0) = false := bne_eq_false_iff_eq.mpr c8
    clear c8
    (first | rw [c8b0] | (simp only [i64_w, i32_w]; rw [c8b0]) | skip)
    have H' := zp.mk H
    clear H
    have y9_0 := zt0 BK276.out
    have y9_1 := zt1 BK276.out
    have y9_2 := zt2 BK276.out
    have y9_3 := zt3 BK276.out
    have y9_4 := zt4 BK276.out
    have y9_5 := zt5 BK276.out
    have u9_0 := zd BK276.out 0
    have u9_1 := zd BK276.out 1
    have u9_2 := zd BK276.out 2
    have u9_3 := zd BK276.out 3
    have u9_4 := zd BK276.out 4
    have u9_5 := zd BK276.out 5
    go_wp2_with (first | ((with_reducible refine zn (f := 9) rfl ?_); refine goesL_ (some 13) rfl rfl Try.func9 (by kernel_rfl) rfl #[.agg #[.int .i64 a2_0, .int .i64 a2_1, .int .u64 a2_2, .int .i64 a2_3, .int .i64 a2_4, .slice A2_5 l2_5.length c2_5]] rfl (by (try simp only [List.map_toArray, List.map_cons, List.map_nil]); first | done | rfl | (simp only [List.length_drop, List.length_take]; rfl)) ?_; (with_reducible refine (spec_AggOk.calls k a2_0 a2_1 a2_2 a2_3 a2_4 _ _ l2_5 true _ ?side1 ?side2 A6.out).mono ?_); (case side1 => repeat (first | exact (Kd.zs HR2_5.out HB.out) | (with_reducible refine Kd.zr ?_ _) | (with_reducible refine Kd.zq ?_ _) | (with_reducible refine Kd.C_drew ?_))); (case side2 => exact HC2_5.out); rintro e w10 ⟨rfl, hb⟩; refine ⟨_, rfl, ?_⟩; replace BK276 := zp.mk (zl (zv8 BK276.out) hb); replace HB := zp.mk (zj (zv7 HB.out) hb); (try clear hb); (try clear hb2); (try clear hk); (try clear hi); have y11_0 := zt0 BK276.out; have y11_1 := zt1 BK276.out; have y11_2 := zt2 BK276.out; have y11_3 := zt3 BK276.out; have y11_4 := zt4 BK276.out; have y11_5 := zt5 BK276.out; have u11_0 := zd BK276.out 0; have u11_1 := zd BK276.out 1; have u11_2 := zd BK276.out 2; have u11_3 := zd BK276.out 3; have u11_4 := zd BK276.out 4; have u11_5 := zd BK276.out 5))
    go_meet
    case rel => exact ⟨_, (true), (by first | rfl | (simp; done) | (simp [*]; done)), H', ⟨by first | omega | exact Nat.le_refl _⟩, ⟨zv8 BK276.out⟩, ⟨zv7 HB.out⟩⟩
   ·rw [if_neg c8] at H
    have c8b0 : (a2_0 == 0) = false := beq_eq_false_iff_ne.mpr c8
    have c8b1 : (a2_0 != 0) = true := bne_iff_ne.mpr c8
    (first | rw [c8b0] | (simp only [i64_w, i32_w]; rw [c8b0]) | skip)
    replace H := zs4 H
    obtain ⟨t278, A120, H⟩ := H
    replace H : (spec_AggDone.j0 k a0 a1 (!t278) a2_0 a2_1 a2_2 a2_3 a2_4 l2_5) = some (r1, r2) := H
    have A12 := zp.mk A120
    clear A120
    have H' := zp.mk H
    clear H
    have y13_0 := zt0 BK276.out
    have y13_1 := zt1 BK276.out
    have y13_2 := zt2 BK276.out
    have y13_3 := zt3 BK276.out
    have y13_4 := zt4 BK276.out
    have y13_5 := zt5 BK276.out
    have u13_0 := zd BK276.out 0
    have u13_1 := zd BK276.out 1
    have u13_2 := zd BK276.out 2
    have u13_3 := zd BK276.out 3
    have u13_4 := zd BK276.out 4
    have u13_5 := zd BK276.out 5
    go_wp2_with (first | ((with_reducible refine zn (f := 9) rfl ?_); refine goesL_ (some 13) rfl rfl Try.func9 (by kernel_rfl) rfl #[.agg #[.int .i64 a2_0, .int .i64 a2_1, .int .u64 a2_2, .int .i64 a2_3, .int .i64 a2_4, .slice A2_5 l2_5.length c2_5]] rfl (by (try simp only [List.map_toArray, List.map_cons, List.map_nil]); first | done | rfl | (simp only [List.length_drop, List.length_take]; rfl)) ?_; (with_reducible refine (spec_AggOk.calls k a2_0 a2_1 a2_2 a2_3 a2_4 _ _ l2_5 true _ ?side1 ?side2 A6.out).mono ?_); (case side1 => repeat (first | exact (Kd.zs HR2_5.out HB.out) | (with_reducible refine Kd.zr ?_ _) | (with_reducible refine Kd.zq ?_ _) | (with_reducible refine Kd.C_drew ?_))); (case side2 => exact HC2_5.out); rintro e w14 ⟨rfl, hb⟩; refine ⟨_, rfl, ?_⟩; replace BK276 := zp.mk (zl (zv8 BK276.out) hb); replace HB := zp.mk (zj (zv7 HB.out) hb); (try clear hb); (try clear hb2); (try clear hk); (try clear hi); have y15_0 := zt0 BK276.out; have y15_1 := zt1 BK276.out; have y15_2 := zt2 BK276.out; have y15_3 := zt3 BK276.out; have y15_4 := zt4 BK276.out; have y15_5 := zt5 BK276.out; have u15_0 := zd BK276.out 0; have u15_1 := zd BK276.out 1; have u15_2 := zd BK276.out 2; have u15_3 := zd BK276.out 3; have u15_4 := zd BK276.out 4; have u15_5 := zd BK276.out 5) | (go_at_call 36; (with_reducible refine (spec_AggKind.calls a0 a1 t278 _ A12.out).mono ?_); rintro e w' ⟨rfl, ⟨nd, rfl⟩⟩))
    go_meet
    case rel => exact ⟨_, (!t278), (by first | rfl | (simp; done) | (simp [*]; done)), H', ⟨by first | omega | exact Nat.le_refl _⟩, ⟨zv8 BK276.out⟩, ⟨zv7 HB.out⟩⟩
  ·replace c7 := Bool.eq_false_iff.mpr c7
   subst c7
   have H1 : (spec_AggDone.j0 k a0 a1 true a2_0 a2_1 a2_2 a2_3 a2_4 l2_5) = some (r1, r2) := by rw [if_neg (show ¬ (false = true) by decide)] at H; exact H
   clear H
   have H := H1
   clear H1
   have H' := zp.mk H
   clear H
   have y16_0 := zt0 BK276.out
   have y16_1 := zt1 BK276.out
   have y16_2 := zt2 BK276.out
   have y16_3 := zt3 BK276.out
   have y16_4 := zt4 BK276.out
   have y16_5 := zt5 BK276.out
   have u16_0 := zd BK276.out 0
   have u16_1 := zd BK276.out 1
   have u16_2 := zd BK276.out 2
   have u16_3 := zd BK276.out 3
   have u16_4 := zd BK276.out 4
   have u16_5 := zd BK276.out 5
   go_wp2_with (first | ((with_reducible refine zn (f := 9) rfl ?_); refine goesL_ (some 13) rfl rfl Try.func9 (by kernel_rfl) rfl #[.agg #[.int .i64 a2_0, .int .i64 a2_1, .int .u64 a2_2, .int .i64 a2_3, .int .i64 a2_4, .slice A2_5 l2_5.length c2_5]] rfl (by (try simp only [List.map_toArray, List.map_cons, List.map_nil]); first | done | rfl | (simp only [List.length_drop, List.length_take]; rfl)) ?_; (with_reducible refine (spec_AggOk.calls k a2_0 a2_1 a2_2 a2_3 a2_4 _ _ l2_5 false _ ?side1 ?side2 A6.out).mono ?_); (case side1 => repeat (first | exact (Kd.zs HR2_5.out HB.out) | (with_reducible refine Kd.zr ?_ _) | (with_reducible refine Kd.zq ?_ _) | (with_reducible refine Kd.C_drew ?_))); (case side2 => exact HC2_5.out); rintro e w17 ⟨rfl, hb⟩; refine ⟨_, rfl, ?_⟩; replace BK276 := zp.mk (zl (zv8 BK276.out) hb); replace HB := zp.mk (zj (zv7 HB.out) hb); (try clear hb); (try clear hb2); (try clear hk); (try clear hi)))
   go_meet
   case rel => exact ⟨_, (true), (by first | rfl | (simp; done) | (simp [*]; done)), H', ⟨by first | omega | exact Nat.le_refl _⟩, ⟨zv8 BK276.out⟩, ⟨zv7 HB.out⟩⟩
 case rest =>
  clear HC4
  try clear c1
  try clear c2
  try clear p2
  try clear c7
  try clear c8
  try clear c8b0
  try clear c8b1
  try clear c9
  try clear c13
  try clear y11_0
  try clear y11_1
  try clear y11_2
  try clear y11_3
  try clear y11_4
  try clear y11_5
  try clear y13_0
  try clear y13_1
  try clear y13_2
  try clear y13_3
  try clear y13_4
  try clear y13_5
  try clear y15_0
  try clear y15_1
  try clear y15_2
  try clear y15_3
  try clear y15_4
  try clear y15_5
  try clear y16_0
  try clear y16_1
  try clear y16_2
  try clear y16_3
  try clear y16_4
  try clear y16_5
  try clear y9_0
  try clear y9_1
  try clear y9_2
  try clear y9_3
  try clear y9_4
  try clear y9_5
  try clear u11_0
  try clear u11_1
  try clear u11_2
  try clear u11_3
  try clear u11_4
  try clear u11_5
  try clear u13_0
  try clear u13_1
  try clear u13_2
  try clear u13_3
  try clear u13_4
  try clear u13_5
  try clear u15_0
  try clear u15_1
  try clear u15_2
  try clear u15_3
  try clear u15_4
  try clear u15_5
  try clear u16_0
  try clear u16_1
  try clear u16_2
  try clear u16_3
  try clear u16_4
  try clear u16_5
  try clear u9_0
  try clear u9_1
  try clear u9_2
  try clear u9_3
  try clear u9_4
  try clear u9_5
  obtain ⟨kq, x25_3, rfl, HA, HJ3, BK276, HB⟩ := hcut
  cases kq with
  | zero => exact absurd HA.out (by simp [spec_AggDone.j0])
  | succ kj3 =>
   have H := HA.out
   clear HA
   simp only [spec_AggDone.j0] at H
   by_cases c18 : x25_3 = true
   ·subst c18
    have H1 : (some (([] : List Int), false)) = some (r1, r2) := by rw [if_pos rfl] at H; exact H
    clear H
    have H := H1
    clear H1
    simp only [Option.some.injEq, Prod.mk.injEq] at H
    obtain ⟨rfl, rfl⟩ := H
    go_wp2
    go_ret2
    exact ⟨_, by first | rfl | (simp [errW_none, errW_some] <;> rfl) | (simp [*, errW_none, errW_some] <;> rfl), by first | exact Kd.R_nil _ _ _ _ _ | exact Kd.N_nil _ _ _ _ _ | exact Kd.V_nil _ _ _ _ _ | exact Kd.Q_nil _ _ _ _ _ | exact Kd.S_nil _ _ _ _ _, zv7 HB.out⟩
   ·replace c18 := Bool.eq_false_iff.mpr c18
    subst c18
    have H1 : (if a0 = 1 then (some ((([a2_0] : List Int)), false)) else (if a0 = 2 then ((spec_WideInt.f a2_1 a2_2).bind fun bt282 => (if bt282.2 = true then (some ((([bt282.1] : List Int)), false)) else (some (([] : List Int), true)))) else (if a0 = 3 then (some ((([a2_3] : List Int)), false)) else (if a0 = 4 then (some ((([a2_4] : List Int)), false)) else (if a0 = 5 then ((spec_WideMean.f kj3 a2_1 a2_2 a2_0).bind fun bt293 => (some ((([bt293.1] : List Int)), false))) else ((some (([] : List Int) : List Int)).bind fun y298 => (if 0 ≤ (mn a1 (l2_5.length : Int)) then (if (mn a1 (l2_5.length : Int)) ≤ (l2_5.length : Int) then (if y298.length + (l2_5.take ((mn a1 (l2_5.length : Int)) : Int).toNat).length < 17592186044416 then (some ((y298 ++ (l2_5.take ((mn a1 (l2_5.length : Int)) : Int).toNat)), false)) else (none)) else (none)) else (none)))))))) = some (r1, r2) := by rw [if_neg (show ¬ (false = true) by decide)] at H; exact H
    clear H
    have H := H1
    clear H1
    by_cases c19 : a0 = 1
    ·rw [if_pos c19] at H
     have c19b0 : (a0 == 1) = true := beq_iff_eq.mpr c19
     have c19b1 : (a0 != 1) = false := bne_eq_false_iff_eq.mpr c19
     clear c19
     obtain ⟨y279, hy279⟩ : ∃ y_ : List Int, y_ = (([a2_0] : List Int)) := ⟨_, rfl⟩
     replace H : (some (y279, false)) = some (r1, r2) := by first | (rw [hy279]; with_reducible exact H) | (have H2_ := (Option.bind_some _ _).symm.trans H; rw [hy279]; with_reducible exact H2_) | (have H2_ := (Option.bind_some _ _).symm.trans H; with_reducible exact H2_) | with_reducible exact H | (rw [hy279]; exact H) | exact H
     have Ny279 := zp.mk hy279
     clear hy279
     simp only [Option.some.injEq, Prod.mk.injEq] at H
     obtain ⟨rfl, rfl⟩ := H
     have y20_0 := zt0 BK276.out
     have y20_1 := zt1 BK276.out
     have y20_2 := zt2 BK276.out
     have y20_3 := zt3 BK276.out
     have y20_4 := zt4 BK276.out
     have y20_5 := zt5 BK276.out
     have u20_0 := zd BK276.out 0
     have u20_1 := zd BK276.out 1
     have u20_2 := zd BK276.out 2
     have u20_3 := zd BK276.out 3
     have u20_4 := zd BK276.out 4
     have u20_5 := zd BK276.out 5
     go_wp2_with (first | ((with_reducible refine zo (N := 31) rfl ?_); refine Kd.R_lit (Kd.int .i64) _ 3 ?hg (N := 31) ?hd (xs := ([a2_0] : List Int)) (inner := [.int .i64 a2_0]) (ok := fun _ => True) (okp := fun _ => True) ?hr ?hp (fun _ hk => hk) trivial (Below.refl _ _) (Nat.le_refl _) (by simp) ?_; (case hd => rfl); (case hg => rfl); (case hr => first | (go_simp; done) | (go_simp; rfl)); (case hp => exact (Reps.one (show Kd.M (Kd.int .i64) _ _ _ a2_0 [.int .i64 a2_0] from rfl) (Reps.none _ _))); intro v280 w21 ho22 hb hg_ hnew_; clear hg_ hnew_; (first | rw [← Ny279.out] at ho22 | (simp only [Int.reduceToNat] at ho22; rw [← Ny279.out] at ho22)); have HO281 := zp.mk (Kd.R_lower ho22 (zk (zv7 HB.out))); replace BK276 := zp.mk (zl (zv8 BK276.out) hb); replace HB := zp.mk (zj (zv7 HB.out) hb); clear hb ho22))
     go_ret2
     exact ⟨_, by first | rfl | (simp [errW_none, errW_some] <;> rfl) | (simp [*, errW_none, errW_some] <;> rfl), by (with_reducible repeat (first | apply Kd.R_alloc | apply Kd.R_drewN | apply Kd.R_drew)); exact HO281.out, zv7 HB.out⟩
    ·rw [if_neg c19] at H
     have c19b0 : (a0 == 1) = false := beq_eq_false_iff_ne.mpr c19
     have c19b1 : (a0 != 1) = true := bne_iff_ne.mpr c19
     by_cases c23 : a0 = 2
     ·rw [if_pos c23] at H
      have c23b0 : (a0 == 2) = true := beq_iff_eq.mpr c23
      have c23b1 : (a0 != 2) = false := bne_eq_false_iff_eq.mpr c23
      clear c23
      replace H := zs4 H
      obtain ⟨⟨t282, t283⟩, A240, H⟩ := H
      replace H : (if t283 = true then (some ((([t282] : List Int)), false)) else (some (([] : List Int), true))) = some (r1, r2) := H
      have A24 := zp.mk A240
      clear A240
      by_cases c25 : t283 = true
      ·subst c25
       have H1 : (some ((([t282] : List Int)), false)) = some (r1, r2) := by rw [if_pos rfl] at H; exact H
       clear H
       have H := H1
       clear H1
       obtain ⟨y284, hy284⟩ : ∃ y_ : List Int, y_ = (([t282] : List Int)) := ⟨_, rfl⟩
       replace H : (some (y284, false)) = some (r1, r2) := by first | (rw [hy284]; with_reducible exact H) | (have H2_ := (Option.bind_some _ _).symm.trans H; rw [hy284]; with_reducible exact H2_) | (have H2_ := (Option.bind_some _ _).symm.trans H; with_reducible exact H2_) | with_reducible exact H | (rw [hy284]; exact H) | exact H
       have Ny284 := zp.mk hy284
       clear hy284
       simp only [Option.some.injEq, Prod.mk.injEq] at H
       obtain ⟨rfl, rfl⟩ := H
       have y26_0 := zt0 BK276.out
       have y26_1 := zt1 BK276.out
       have y26_2 := zt2 BK276.out
       have y26_3 := zt3 BK276.out
       have y26_4 := zt4 BK276.out
       have y26_5 := zt5 BK276.out
       have u26_0 := zd BK276.out 0
       have u26_1 := zd BK276.out 1
       have u26_2 := zd BK276.out 2
       have u26_3 := zd BK276.out 3
       have u26_4 := zd BK276.out 4
       have u26_5 := zd BK276.out 5
       go_wp2_with (first | ((with_reducible refine zn (f := 37) rfl ?_); refine goesL_ (some 37) rfl rfl Try.func37 (by kernel_rfl) rfl #[.agg #[.int .i64 a2_1, .int .u64 a2_2]] rfl (by (try simp only [List.map_toArray, List.map_cons, List.map_nil]); first | done | rfl | (simp only [List.length_drop, List.length_take]; rfl)) ?_; (with_reducible refine (spec_WideInt.calls a2_1 a2_2 t282 true _ A24.out).mono ?_); rintro e w27 ⟨rfl, hb⟩; refine ⟨_, rfl, ?_⟩; replace BK276 := zp.mk (zl (zv8 BK276.out) hb); replace HB := zp.mk (zj (zv7 HB.out) hb); (try clear hb); (try clear hb2); (try clear hk); (try clear hi)) | ((with_reducible refine zo (N := 43) rfl ?_); refine Kd.R_lit (Kd.int .i64) _ 3 ?hg (N := 43) ?hd (xs := ([t282] : List Int)) (inner := [.int .i64 t282]) (ok := fun _ => True) (okp := fun _ => True) ?hr ?hp (fun _ hk => hk) trivial (Below.refl _ _) (Nat.le_refl _) (by simp) ?_; (case hd => rfl); (case hg => rfl); (case hr => first | (go_simp; done) | (go_simp; rfl)); (case hp => exact (Reps.one (show Kd.M (Kd.int .i64) _ _ _ t282 [.int .i64 t282] from rfl) (Reps.none _ _))); intro v285 w28 ho29 hb hg_ hnew_; clear hg_ hnew_; (first | rw [← Ny284.out] at ho29 | (simp only [Int.reduceToNat] at ho29; rw [← Ny284.out] at ho29)); have HO286 := zp.mk (Kd.R_lower ho29 (zk (zv7 HB.out))); replace BK276 := zp.mk (zl (zv8 BK276.out) hb); replace HB := zp.mk (zj (zv7 HB.out) hb); clear hb ho29))
       go_ret2
       exact ⟨_, by first | rfl | (simp [errW_none, errW_some] <;> rfl) | (simp [*, errW_none, errW_some] <;> rfl), by (with_reducible repeat (first | apply Kd.R_alloc | apply Kd.R_drewN | apply Kd.R_drew)); exact HO286.out, zv7 HB.out⟩
      ·replace c25 := Bool.eq_false_iff.mpr c25
       subst c25
       have H1 : (some (([] : List Int), true)) = some (r1, r2) := by rw [if_neg (show ¬ (false = true) by decide)] at H; exact H
       clear H
       have H := H1
       clear H1
       simp only [Option.some.injEq, Prod.mk.injEq] at H
       obtain ⟨rfl, rfl⟩ := H
       have y30_0 := zt0 BK276.out
       have y30_1 := zt1 BK276.out
       have y30_2 := zt2 BK276.out
       have y30_3 := zt3 BK276.out
       have y30_4 := zt4 BK276.out
       have y30_5 := zt5 BK276.out
       have u30_0 := zd BK276.out 0
       have u30_1 := zd BK276.out 1
       have u30_2 := zd BK276.out 2
       have u30_3 := zd BK276.out 3
       have u30_4 := zd BK276.out 4
       have u30_5 := zd BK276.out 5
       go_wp2_with (first | ((with_reducible refine zn (f := 37) rfl ?_); refine goesL_ (some 37) rfl rfl Try.func37 (by kernel_rfl) rfl #[.agg #[.int .i64 a2_1, .int .u64 a2_2]] rfl (by (try simp only [List.map_toArray, List.map_cons, List.map_nil]); first | done | rfl | (simp only [List.length_drop, List.length_take]; rfl)) ?_; (with_reducible refine (spec_WideInt.calls a2_1 a2_2 t282 false _ A24.out).mono ?_); rintro e w31 ⟨rfl, hb⟩; refine ⟨_, rfl, ?_⟩; replace BK276 := zp.mk (zl (zv8 BK276.out) hb); replace HB := zp.mk (zj (zv7 HB.out) hb); (try clear hb); (try clear hb2); (try clear hk); (try clear hi)))
       go_ret2
       exact ⟨_, by first | rfl | (simp [errW_none, errW_some] <;> rfl) | (simp [*, errW_none, errW_some] <;> rfl), by first | exact Kd.R_nil _ _ _ _ _ | exact Kd.N_nil _ _ _ _ _ | exact Kd.V_nil _ _ _ _ _ | exact Kd.Q_nil _ _ _ _ _ | exact Kd.S_nil _ _ _ _ _, zv7 HB.out⟩
     ·rw [if_neg c23] at H
      have c23b0 : (a0 == 2) = false := beq_eq_false_iff_ne.mpr c23
      have c23b1 : (a0 != 2) = true := bne_iff_ne.mpr c23
      by_cases c32 : a0 = 3
      ·rw [if_pos c32] at H
       have c32b0 : (a0 == 3) = true := beq_iff_eq.mpr c32
       have c32b1 : (a0 != 3) = false := bne_eq_false_iff_eq.mpr c32
       clear c32
       obtain ⟨y287, hy287⟩ : ∃ y_ : List Int, y_ = (([a2_3] : List Int)) := ⟨_, rfl⟩
       replace H : (some (y287, false)) = some (r1, r2) := by first | (rw [hy287]; with_reducible exact H) | (have H2_ := (Option.bind_some _ _).symm.trans H; rw [hy287]; with_reducible exact H2_) | (have H2_ := (Option.bind_some _ _).symm.trans H; with_reducible exact H2_) | with_reducible exact H | (rw [hy287]; exact H) | exact H
       have Ny287 := zp.mk hy287
       clear hy287
       simp only [Option.some.injEq, Prod.mk.injEq] at H
       obtain ⟨rfl, rfl⟩ := H
       have y33_0 := zt0 BK276.out
       have y33_1 := zt1 BK276.out
       have y33_2 := zt2 BK276.out
       have y33_3 := zt3 BK276.out
       have y33_4 := zt4 BK276.out
       have y33_5 := zt5 BK276.out
       have u33_0 := zd BK276.out 0
       have u33_1 := zd BK276.out 1
       have u33_2 := zd BK276.out 2
       have u33_3 := zd BK276.out 3
       have u33_4 := zd BK276.out 4
       have u33_5 := zd BK276.out 5
       go_wp2_with (first | ((with_reducible refine zo (N := 48) rfl ?_); refine Kd.R_lit (Kd.int .i64) _ 3 ?hg (N := 48) ?hd (xs := ([a2_3] : List Int)) (inner := [.int .i64 a2_3]) (ok := fun _ => True) (okp := fun _ => True) ?hr ?hp (fun _ hk => hk) trivial (Below.refl _ _) (Nat.le_refl _) (by simp) ?_; (case hd => rfl); (case hg => rfl); (case hr => first | (go_simp; done) | (go_simp; rfl)); (case hp => exact (Reps.one (show Kd.M (Kd.int .i64) _ _ _ a2_3 [.int .i64 a2_3] from rfl) (Reps.none _ _))); intro v288 w34 ho35 hb hg_ hnew_; clear hg_ hnew_; (first | rw [← Ny287.out] at ho35 | (simp only [Int.reduceToNat] at ho35; rw [← Ny287.out] at ho35)); have HO289 := zp.mk (Kd.R_lower ho35 (zk (zv7 HB.out))); replace BK276 := zp.mk (zl (zv8 BK276.out) hb); replace HB := zp.mk (zj (zv7 HB.out) hb); clear hb ho35))
       go_ret2
       exact ⟨_, by first | rfl | (simp [errW_none, errW_some] <;> rfl) | (simp [*, errW_none, errW_some] <;> rfl), by (with_reducible repeat (first | apply Kd.R_alloc | apply Kd.R_drewN | apply Kd.R_drew)); exact HO289.out, zv7 HB.out⟩
      ·rw [if_neg c32] at H
       have c32b0 : (a0 == 3) = false := beq_eq_false_iff_ne.mpr c32
       have c32b1 : (a0 != 3) = true := bne_iff_ne.mpr c32
       by_cases c36 : a0 = 4
       ·rw [if_pos c36] at H
        have c36b0 : (a0 == 4) = true := beq_iff_eq.mpr c36
        have c36b1 : (a0 != 4) = false := bne_eq_false_iff_eq.mpr c36
        clear c36
        obtain ⟨y290, hy290⟩ : ∃ y_ : List Int, y_ = (([a2_4] : List Int)) := ⟨_, rfl⟩
        replace H : (some (y290, false)) = some (r1, r2) := by first | (rw [hy290]; with_reducible exact H) | (have H2_ := (Option.bind_some _ _).symm.trans H; rw [hy290]; with_reducible exact H2_) | (have H2_ := (Option.bind_some _ _).symm.trans H; with_reducible exact H2_) | with_reducible exact H | (rw [hy290]; exact H) | exact H
        have Ny290 := zp.mk hy290
        clear hy290
        simp only [Option.some.injEq, Prod.mk.injEq] at H
        obtain ⟨rfl, rfl⟩ := H
        have y37_0 := zt0 BK276.out
        have y37_1 := zt1 BK276.out
        have y37_2 := zt2 BK276.out
        have y37_3 := zt3 BK276.out
        have y37_4 := zt4 BK276.out
        have y37_5 := zt5 BK276.out
        have u37_0 := zd BK276.out 0
        have u37_1 := zd BK276.out 1
        have u37_2 := zd BK276.out 2
        have u37_3 := zd BK276.out 3
        have u37_4 := zd BK276.out 4
        have u37_5 := zd BK276.out 5
        go_wp2_with (first | ((with_reducible refine zo (N := 53) rfl ?_); refine Kd.R_lit (Kd.int .i64) _ 3 ?hg (N := 53) ?hd (xs := ([a2_4] : List Int)) (inner := [.int .i64 a2_4]) (ok := fun _ => True) (okp := fun _ => True) ?hr ?hp (fun _ hk => hk) trivial (Below.refl _ _) (Nat.le_refl _) (by simp) ?_; (case hd => rfl); (case hg => rfl); (case hr => first | (go_simp; done) | (go_simp; rfl)); (case hp => exact (Reps.one (show Kd.M (Kd.int .i64) _ _ _ a2_4 [.int .i64 a2_4] from rfl) (Reps.none _ _))); intro v291 w38 ho39 hb hg_ hnew_; clear hg_ hnew_; (first | rw [← Ny290.out] at ho39 | (simp only [Int.reduceToNat] at ho39; rw [← Ny290.out] at ho39)); have HO292 := zp.mk (Kd.R_lower ho39 (zk (zv7 HB.out))); replace BK276 := zp.mk (zl (zv8 BK276.out) hb); replace HB := zp.mk (zj (zv7 HB.out) hb); clear hb ho39))
        go_ret2
        exact ⟨_, by first | rfl | (simp [errW_none, errW_some] <;> rfl) | (simp [*, errW_none, errW_some] <;> rfl), by (with_reducible repeat (first | apply Kd.R_alloc | apply Kd.R_drewN | apply Kd.R_drew)); exact HO292.out, zv7 HB.out⟩
       ·rw [if_neg c36] at H
        have c36b0 : (a0 == 4) = false := beq_eq_false_iff_ne.mpr c36
        have c36b1 : (a0 != 4) = true := bne_iff_ne.mpr c36
        by_cases c40 : a0 = 5
        ·rw [if_pos c40] at H
         have c40b0 : (a0 == 5) = true := beq_iff_eq.mpr c40
         have c40b1 : (a0 != 5) = false := bne_eq_false_iff_eq.mpr c40
         clear c40
         replace H := zs4 H
         obtain ⟨⟨t293, t294⟩, A410, H⟩ := H
         replace H : (some ((([t293] : List Int)), false)) = some (r1, r2) := H
         have A41 := zp.mk A410
         clear A410
         obtain ⟨y295, hy295⟩ : ∃ y_ : List Int, y_ = (([t293] : List Int)) := ⟨_, rfl⟩
         replace H : (some (y295, false)) = some (r1, r2) := by first | (rw [hy295]; with_reducible exact H) | (have H2_ := (Option.bind_some _ _).symm.trans H; rw [hy295]; with_reducible exact H2_) | (have H2_ := (Option.bind_some _ _).symm.trans H; with_reducible exact H2_) | with_reducible exact H | (rw [hy295]; exact H) | exact H
         have Ny295 := zp.mk hy295
         clear hy295
         simp only [Option.some.injEq, Prod.mk.injEq] at H
         obtain ⟨rfl, rfl⟩ := H
         have y42_0 := zt0 BK276.out
         have y42_1 := zt1 BK276.out
         have y42_2 := zt2 BK276.out
         have y42_3 := zt3 BK276.out
         have y42_4 := zt4 BK276.out
         have y42_5 := zt5 BK276.out
         have u42_0 := zd BK276.out 0
         have u42_1 := zd BK276.out 1
         have u42_2 := zd BK276.out 2
         have u42_3 := zd BK276.out 3
         have u42_4 := zd BK276.out 4
         have u42_5 := zd BK276.out 5
         go_wp2_with (first | ((with_reducible refine zn (f := 38) rfl ?_); refine goesL_ (some 61) rfl rfl Try.func38 (by kernel_rfl) rfl #[.agg #[.int .i64 a2_1, .int .u64 a2_2], .int .i64 a2_0] rfl (by (try simp only [List.map_toArray, List.map_cons, List.map_nil]); first | done | rfl | (simp only [List.length_drop, List.length_take]; rfl)) ?_; (with_reducible refine (spec_WideMean.calls kj3 a2_1 a2_2 a2_0 t293 t294 _ A41.out).mono ?_); rintro e w43 ⟨rfl, hb⟩; refine ⟨_, rfl, ?_⟩; replace BK276 := zp.mk (zl (zv8 BK276.out) hb); replace HB := zp.mk (zj (zv7 HB.out) hb); (try clear hb); (try clear hb2); (try clear hk); (try clear hi)) | ((with_reducible refine zo (N := 65) rfl ?_); refine Kd.R_lit (Kd.int .i64) _ 3 ?hg (N := 65) ?hd (xs := ([t293] : List Int)) (inner := [.int .i64 t293]) (ok := fun _ => True) (okp := fun _ => True) ?hr ?hp (fun _ hk => hk) trivial (Below.refl _ _) (Nat.le_refl _) (by simp) ?_; (case hd => rfl); (case hg => rfl); (case hr => first | (go_simp; done) | (go_simp; rfl)); (case hp => exact (Reps.one (show Kd.M (Kd.int .i64) _ _ _ t293 [.int .i64 t293] from rfl) (Reps.none _ _))); intro v296 w44 ho45 hb hg_ hnew_; clear hg_ hnew_; (first | rw [← Ny295.out] at ho45 | (simp only [Int.reduceToNat] at ho45; rw [← Ny295.out] at ho45)); have HO297 := zp.mk (Kd.R_lower ho45 (zk (zv7 HB.out))); replace BK276 := zp.mk (zl (zv8 BK276.out) hb); replace HB := zp.mk (zj (zv7 HB.out) hb); clear hb ho45))
         go_ret2
         exact ⟨_, by first | rfl | (simp [errW_none, errW_some] <;> rfl) | (simp [*, errW_none, errW_some] <;> rfl), by (with_reducible repeat (first | apply Kd.R_alloc | apply Kd.R_drewN | apply Kd.R_drew)); exact HO297.out, zv7 HB.out⟩
        ·rw [if_neg c40] at H
         have c40b0 : (a0 == 5) = false := beq_eq_false_iff_ne.mpr c40
         have c40b1 : (a0 != 5) = true := bne_iff_ne.mpr c40
         obtain ⟨y298, hy298⟩ : ∃ y_ : List Int, y_ = (([] : List Int)) := ⟨_, rfl⟩
         replace H : (if 0 ≤ (mn a1 (l2_5.length : Int)) then (if (mn a1 (l2_5.length : Int)) ≤ (l2_5.length : Int) then (if y298.length + (l2_5.take ((mn a1 (l2_5.length : Int)) : Int).toNat).length < 17592186044416 then (some ((y298 ++ (l2_5.take ((mn a1 (l2_5.length : Int)) : Int).toNat)), false)) else (none)) else (none)) else (none)) = some (r1, r2) := by first | (rw [hy298]; with_reducible exact H) | (have H2_ := (Option.bind_some _ _).symm.trans H; rw [hy298]; with_reducible exact H2_) | (have H2_ := (Option.bind_some _ _).symm.trans H; with_reducible exact H2_) | with_reducible exact H | (rw [hy298]; exact H) | exact H
         have Ny298 := zp.mk hy298
         clear hy298
         obtain ⟨ji46, hji46⟩ : ∃ j_ : Int, (mn a1 (l2_5.length : Int)) = j_ := ⟨_, rfl⟩
         replace H : (if 0 ≤ (ji46) then (if (ji46) ≤ (l2_5.length : Int) then (if y298.length + (l2_5.take ((ji46) : Int).toNat).length < 17592186044416 then (some ((y298 ++ (l2_5.take ((ji46) : Int).toNat)), false)) else (none)) else (none)) else (none)) = some (r1, r2) := by first | (rw [hji46] at H; exact H) | (simp only [hji46] at H ⊢; exact H)
         have hji46_ : (if (l2_5.length : Int) < a1 then (l2_5.length : Int) else a1) = ji46 := hji46
         by_cases c47 : 0 ≤ (ji46)
         ·rw [if_pos c47] at H
          have c47b0 := eq_true c47
          have c47b1 : decide (0 ≤ (ji46)) = true := decide_eq_true c47
          clear c47
          by_cases c48 : (ji46) ≤ (l2_5.length : Int)
          ·rw [if_pos c48] at H
           have c48b0 := eq_true c48
           have c48b1 : decide ((ji46) ≤ (l2_5.length : Int)) = true := decide_eq_true c48
           clear c48
           by_cases c49 : y298.length + (l2_5.take ((ji46) : Int).toNat).length < 17592186044416
           ·rw [if_pos c49] at H
            have LMc49 := zp.mk c49
            clear c49
            obtain ⟨y302, hy302⟩ : ∃ y_ : List Int, y_ = (y298 ++ (l2_5.take ((ji46) : Int).toNat)) := ⟨_, rfl⟩
            replace H : (some (y302, false)) = some (r1, r2) := by first | (rw [hy302]; with_reducible exact H) | (have H2_ := (Option.bind_some _ _).symm.trans H; rw [hy302]; with_reducible exact H2_) | (have H2_ := (Option.bind_some _ _).symm.trans H; with_reducible exact H2_) | with_reducible exact H | (rw [hy302]; exact H) | exact H
            have Ny302 := zp.mk hy302
            clear hy302
            simp only [Option.some.injEq, Prod.mk.injEq] at H
            obtain ⟨rfl, rfl⟩ := H
            go_wp2_with (first | ((with_reducible refine zo (N := 66) rfl ?_); refine Kd.R_lit (Kd.int .i64) _ 3 ?hg (N := 66) ?hd (xs := ([] : List Int)) (inner := []) (ok := fun _ => True) (okp := fun _ => True) ?hr ?hp (fun _ hk => hk) trivial (Below.refl _ _) (Nat.le_refl _) (by simp) ?_; (case hd => rfl); (case hg => rfl); (case hr => first | (go_simp; done) | (go_simp; rfl)); (case hp => exact (Reps.none _ _)); intro v299 w50 ho51 hb hg_ hnew_; clear hg_ hnew_; (first | rw [← Ny298.out] at ho51 | (simp only [Int.reduceToNat] at ho51; rw [← Ny298.out] at ho51)); have HO300 := zp.mk (Kd.R_lower ho51 (zk (zv7 HB.out))); replace BK276 := zp.mk (zl (zv8 BK276.out) hb); replace HB := zp.mk (zj (zv7 HB.out) hb); clear hb ho51; have y52_0 := zt0 BK276.out; have y52_1 := zt1 BK276.out; have y52_2 := zt2 BK276.out; have y52_3 := zt3 BK276.out; have y52_4 := zt4 BK276.out; have y52_5 := zt5 BK276.out; have u52_0 := zd BK276.out 0; have u52_1 := zd BK276.out 1; have u52_2 := zd BK276.out 2; have u52_3 := zd BK276.out 3; have u52_4 := zd BK276.out 4; have u52_5 := zd BK276.out 5; obtain ⟨i053, hi053, _, hsz53, _⟩ := info_parts info3; obtain ⟨hcut53, hA53, hC53⟩ := print_take_of (P := Try.prog) (Value.int .i64) 0 25 3 .i64 Try.underlying25 hi053 hsz53 A2_5 c2_5 l2_5 (ji46) (of_decide_eq_true (by first | (with_reducible assumption) | assumption)) (of_decide_eq_true (by first | (with_reducible assumption) | assumption)) HC2_5.out; have HR301 := zp.mk (Kd.C_of_reads (h1 := fun _ => rfl) (hA53 _ (Kd.reads_of_C HR2_5.out))); have HC301 := zp.mk hC53; clear hA53 hC53 hi053 hsz53) | ((with_reducible refine gate_builtin (b := .append) (xs := #[.tmp 66, .tmp 74]) rfl ?_); at_builtin; refine Kd.R_append_rows (Kd.int .i64) (w0 := w) w.heap.size rfl (.tmp 66) (.tmp 74) 25 3 (.int .i64 0) 8 rfl Try.underlying25 info3 rfl (by decide) (by omega) v299 y298 (l2_5.take ((ji46) : Int).toNat) _ _ _ (fun _ => True) (fun _ => False) rfl rfl ?aO ?aR (fun _ _ h => h) (fun _ h => h.elim) ?aF ?aB ?aS ?aL ?_; (case aR => have q_ := Kd.zs HR301.out HB.out; rw [show (l2_5.take ((ji46) : Int).toNat).length = (ji46).toNat from (by rw [List.length_take]; have h_ : ((ji46) : Int) ≤ (l2_5.length : Int) := of_decide_eq_true (by first | (with_reducible assumption) | assumption); omega)] at q_; exact q_); (case aB => exact (zv7 HB.out)); (case aF => exact (fun _ _ => trivial)); (case aO => exact (by (with_reducible repeat (first | apply Kd.R_alloc | apply Kd.R_drewN | apply Kd.R_drew)); exact HO300.out)); (case aS => exact (zk (zv7 HB.out))); (case aL => have := LMc49.out; have hlx_ := (show (l2_5.take ((ji46) : Int).toNat).length = (ji46).toNat from (by rw [List.length_take]; have h_ : ((ji46) : Int) ≤ (l2_5.length : Int) := of_decide_eq_true (by first | (with_reducible assumption) | assumption); omega)); omega); intro v303 w54 ho hb hg hat; rw [← Ny302.out] at ho; have n0_ := zp.mk (blk_grown (g := gb276) (o := .cells #[.int .i64 a2_0, .int .i64 a2_1, .int .u64 a2_2, .int .i64 a2_3, .int .i64 a2_4, .slice A2_5 l2_5.length c2_5] 32 (0, 0)) (zv8 BK276.out) hg (Kd.R_ne HO300.out BK276.out (by decide))); have n1_ := zp.mk (hb); have n2_ := zp.mk (ho); clear BK276; clear HB; clear HO300; have BK276 := n0_; have HB := n1_; have HO304 := n2_; clear n0_ n1_ n2_; clear ho hb hg hat))
            go_ret2
            exact ⟨_, by first | rfl | (simp [errW_none, errW_some] <;> rfl) | (simp only [← hji46]; first | rfl | (simp [errW_none, errW_some] <;> rfl)) | (simp [*, errW_none, errW_some] <;> rfl), by (with_reducible repeat (first | apply Kd.R_alloc | apply Kd.R_drewN | apply Kd.R_drew)); exact HO304.out, zv7 HB.out⟩
           ·rw [if_neg c49] at H
            exact absurd H (by simp)
          ·rw [if_neg c48] at H
           exact absurd H (by simp)
         ·rw [if_neg c47] at H
          exact absurd H (by simp)

/-! ### impl_in: function 46 -/
def impl_in.f (a0 : Int) (a1 : Int) (a2 : Int) : Option (Bool) := if a1 ≤ a0 then (some (decide (a0 ≤ a2))) else (some false)
set_option maxHeartbeats 8000000 in
set_option maxRecDepth 100000 in
theorem impl_in.calls (a0 : Int) (a1 : Int) (a2 : Int) (r : Bool) (w : World) (h : impl_in.f a0 a1 a2 = some r) :
  Calls Try.prog 46 #[.int .i64 a0, .int .i64 a1, .int .i64 a2] w fun e w' => e = .returned (.bool r) ∧ Drawn0 w w' := by
 have H : (if a1 ≤ a0 then (some (decide (a0 ≤ a2))) else (some false)) = some r := h
 clear h
 by_cases c4 : a1 ≤ a0
 ·rw [if_pos c4] at H
  have c4b0 : decide (a1 ≤ a0) = true := decide_eq_true c4
  clear c4
  obtain rfl := Option.some.inj H
  go_enter Try.func46, Try.ntmps46
  go_wp2
  go_ret
  exact ⟨by first | rfl | (simp; done) | (simp [*]; done), by repeat (first | exact Drawn0.refl _ | apply Drawn0.step)⟩
 ·rw [if_neg c4] at H
  have c4b0 : decide (a1 ≤ a0) = false := decide_eq_false c4
  clear c4
  obtain rfl := Option.some.inj H
  go_enter Try.func46, Try.ntmps46
  go_wp2
  go_ret
  exact ⟨by first | rfl | (simp; done) | (simp [*]; done), by repeat (first | exact Drawn0.refl _ | apply Drawn0.step)⟩

-- NOT PRINTED: function 65 (bits_Add64)

/-! ### impl_WideAdd: function 47 -/
theorem add64_run (x y : Int) (hx : 0 ≤ x ∧ x ≤ 18446744073709551615) (hy : 0 ≤ y ∧ y ≤ 18446744073709551615) (w : World) :
  (callFunc 65 #[.int .u64 x, .int .u64 y, .int .u64 0]).run Try.prog w = .ok (.value (.tuple #[.int .u64 ((x + y) % 18446744073709551616), .int .u64 ((x + y) / 18446744073709551616)])) w := by
 rw [run_callFunc_extern Try.func65 (by kernel_rfl) (by kernel_rfl) (by kernel_rfl) (e := add64Entry) (by kernel_rfl)]
 have h := run_add64 (P := Try.prog) x y 0 hx.1 hy.1 (by omega) (by omega) w
 rw [Int.add_zero] at h
 rw [h]
 simp only [Result.andThen]
def impl_WideAdd.f (a0_0 : Int) (a0_1 : Int) (a1_0 : Int) (a1_1 : Int) : Option (Int × Int) :=
 if 0 ≤ a0_1 ∧ a0_1 ≤ 18446744073709551615 ∧ 0 ≤ a1_1 ∧ a1_1 ≤ 18446744073709551615 then some (wrap64 (wrap64 (a0_0 + a1_0) + (a0_1 + a1_1) / 18446744073709551616), (a0_1 + a1_1) % 18446744073709551616) else none
set_option maxHeartbeats 1000000 in
set_option maxRecDepth 100000 in
theorem impl_WideAdd.calls (a0_0 : Int) (a0_1 : Int) (a1_0 : Int) (a1_1 : Int) (r1 : Int) (r2 : Int) (w : World) (h : impl_WideAdd.f a0_0 a0_1 a1_0 a1_1 = some (r1, r2)) :
  Calls Try.prog 47 #[.agg #[.int .i64 a0_0, .int .u64 a0_1], .agg #[.int .i64 a1_0, .int .u64 a1_1]] w fun e w' => e = .returned (.agg #[.int .i64 r1, .int .u64 r2]) ∧ Below w.heap.size w w' := by
 unfold impl_WideAdd.f at h
 by_cases c : 0 ≤ a0_1 ∧ a0_1 ≤ 18446744073709551615 ∧ 0 ≤ a1_1 ∧ a1_1 ≤ 18446744073709551615
 rotate_left
 ·rw [if_neg c] at h
  cases h
 rw [if_pos c] at h
 simp only [Option.some.injEq, Prod.mk.injEq] at h
 obtain ⟨rfl, rfl⟩ := h
 obtain ⟨h1, h2, h3, h4⟩ := c
 have hadd := add64_run a0_1 a1_1 ⟨h1, h2⟩ ⟨h3, h4⟩
 have b1 : 0 ≤ (a0_1 + a1_1) / 18446744073709551616 := by omega
 have b2 : (a0_1 + a1_1) / 18446744073709551616 ≤ 1 := by omega
 generalize (a0_1 + a1_1) / 18446744073709551616 = q at hadd b1 b2
 generalize (a0_1 + a1_1) % 18446744073709551616 = m at hadd
 clear h1 h2 h3 h4
 go_enter Try.func47, Try.ntmps47
 go_wp2
 refine bodyPost_ret (results_cell_row rfl _ _ (w.heap.size + 1 + 1) 30 #[.int .i64 (wrap64 (wrap64 (a0_0 + a1_0) + q)), .int .u64 m] (0, 0) _ rfl (by simpa using heap_alloc_new ((w.alloc (Obj.cells #[Value.int IntKind.i64 a0_0, Value.int IntKind.u64 a0_1] 30)).alloc (Obj.cells #[Value.int IntKind.i64 a1_0, Value.int IntKind.u64 a1_1] 30)) _) Try.underlying30 rfl (by kernel_rfl)) rfl ?_
 exact ⟨rfl, zc (zc (zc (Below.refl _ _) _) _) _⟩

/-! ### impl_WideNeg: function 48 -/
def impl_WideNeg.f (a0_0 : Int) (a0_1 : Int) : Option (Int × Int) := (impl_WideAdd.f (Go.bits .xor .i64 (-1) a0_0) (Go.bits .xor .u64 18446744073709551615 a0_1) 0 1).bind fun bt307 => (some (bt307.1, bt307.2))
set_option maxHeartbeats 8000000 in
set_option maxRecDepth 100000 in
theorem impl_WideNeg.calls (a0_0 : Int) (a0_1 : Int) (r1 : Int) (r2 : Int) (w : World) (h : impl_WideNeg.f a0_0 a0_1 = some (r1, r2)) :
  Calls Try.prog 48 #[.agg #[.int .i64 a0_0, .int .u64 a0_1]] w fun e w' => e = .returned (.agg #[.int .i64 r1, .int .u64 r2]) ∧ Below w.heap.size w w' := by
 have hu30 := Try.underlying30
 have HB := zp.mk (Below.refl w.heap.size w)
 have H : ((impl_WideAdd.f (Go.bits .xor .i64 (-1) a0_0) (Go.bits .xor .u64 18446744073709551615 a0_1) 0 1).bind fun bt307 => (some (bt307.1, bt307.2))) = some (r1, r2) := h
 clear h
 replace H := zs4 H
 obtain ⟨⟨t307, t308⟩, A20, H⟩ := H
 replace H : (some (t307, t308)) = some (r1, r2) := H
 have A2 := zp.mk A20
 clear A20
 simp only [Option.some.injEq, Prod.mk.injEq] at H
 obtain ⟨rfl, rfl⟩ := H
 go_enter Try.func48, Try.ntmps48
 go_wp2_with (first | ((with_reducible refine zo (N := 1) rfl ?_); refine zm ?hg (N := 1) ?hd (cs := #[.int .i64 a0_0, .int .u64 a0_1]) (t := 30) ?hr ?_; (case hd => rfl); (case hg => rfl); (case hr => first | (go_simp; done) | (go_simp; rfl)); intro gb305 hg w3 hbox hb; have BK305 := zp.mk (hbox); have GW305 := zp.mk ((zv3 (zv6 HB.out) hg)); have GE305 := zp.mk ((zv3 (zv6 HB.out) hg)); replace HB := zp.mk (zj (zv6 HB.out) hb); clear hb hbox hg) | ((with_reducible refine zo (N := 2) rfl ?_); refine zm ?hg (N := 2) ?hd (cs := #[.int .i64 0, .int .u64 0]) (t := 30) ?hr ?_; (case hd => rfl); (case hg => rfl); (case hr => first | (go_simp; done) | (go_simp; rfl)); intro gb306 hg w4 hbox hb; have BK306 := zp.mk (hbox); have GW306 := zp.mk ((zv3 (zv7 HB.out) hg)); have GE306 := zp.mk ((zv3 (zv7 HB.out) hg)); have NB305_306 := zp.mk ((by rw [hg]; exact Nat.ne_of_lt (blk_lt (g := gb305) (o := .cells #[.int .i64 a0_0, .int .u64 a0_1] 30 (0, 0)) (zv8 BK305.out)) : gb305 ≠ gb306)); have NB306_305 := zp.mk ((by rw [hg]; exact Nat.ne_of_gt (blk_lt (g := gb305) (o := .cells #[.int .i64 a0_0, .int .u64 a0_1] 30 (0, 0)) (zv8 BK305.out)) : gb306 ≠ gb305)); replace BK305 := zp.mk (zl (zv8 BK305.out) hb); replace HB := zp.mk (zj (zv7 HB.out) hb); clear hb hbox hg; have hnb5 := NB305_306.out; have hnc5 := NB306_305.out; have y6_0 := zt0 BK305.out; have y6_1 := zt1 BK305.out; have u6_0 := zd BK305.out 0; have u6_1 := zd BK305.out 1) | ((with_reducible refine zn (f := 47) rfl ?_); refine goesL_ (some 11) rfl rfl Try.func47 (by kernel_rfl) rfl #[.agg #[.int .i64 (Go.bits .xor .i64 (-1) a0_0), .int .u64 (Go.bits .xor .u64 18446744073709551615 a0_1)], .agg #[.int .i64 0, .int .u64 1]] rfl (by (try simp only [List.map_toArray, List.map_cons, List.map_nil]); first | done | rfl | (simp only [List.length_drop, List.length_take]; rfl)) ?_; (with_reducible refine (impl_WideAdd.calls (Go.bits .xor .i64 (-1) a0_0) (Go.bits .xor .u64 18446744073709551615 a0_1) 0 1 t307 t308 _ A2.out).mono ?_); rintro e w7 ⟨rfl, hb⟩; refine ⟨_, rfl, ?_⟩; replace BK305 := zp.mk (zl (zv8 BK305.out) hb); replace BK306 := zp.mk (zl (zv8 BK306.out) hb); replace HB := zp.mk (zj (zv7 HB.out) hb); (try clear hb); (try clear hb2); (try clear hk); (try clear hi); have y8_0 := zt0 BK306.out; have y8_1 := zt1 BK306.out; have u8_0 := zd BK306.out 0; have u8_1 := zd BK306.out 1))
 refine bodyPost_ret (results_cell_row rfl _ _ gb306 30 #[.int .i64 t307, .int .u64 t308] (0, 0) _ rfl (by (with_reducible repeat (first | refine zf ?_ _ | refine zi ?_ | refine zg ?_ _)); refine blk_put (cs := #[.int .i64 t307, .int .u64 0]) ?_ 1 _ rfl; (with_reducible repeat (first | refine zf ?_ _ | refine zi ?_ | refine zg ?_ _)); refine blk_put (cs := #[.int .i64 0, .int .u64 0]) ?_ 0 _ rfl; (with_reducible repeat (first | refine zf ?_ _ | refine zi ?_ | refine zg ?_ _)); exact BK306.out) Try.underlying30 rfl (by kernel_rfl)) rfl ?_
 exact ⟨by first | rfl | (simp [errW_none, errW_some] <;> rfl) | (simp [*, errW_none, errW_some] <;> rfl), zv7 HB.out⟩

end Go.Proofs.Ytnnahpmnkpmopaa.QFnExactAggDone
