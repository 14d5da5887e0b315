/- Proved: calls of the program come to the answers of the plain Lean functions that stand beside them. Each contract names its conditions. (Written by a program of this session, over the printer of the kit.) -/
import Derived.Test.YtnnahpmnkpmopaaZAggJoinQFnExactAggJoinx0
namespace Go.Proofs.Ytnnahpmnkpmopaa.QFnExactAggJoin
open Go.RowKit Go.Proofs.YtnnahpmnkpmopaaW.PrintWords Go.Proofs.YtnnahpmnkpmopaaW.PrintLast Go.Proofs.YtnnahpmnkpmopaaW.PrintMore
attribute [local go_sem] max2_int min2_int max_two min_two max_three min_three max_four min_four   -- for this text's walks alone
set_option linter.unusedVariables false
set_option linter.unusedSimpArgs false

/-! ### laws_szIntS: function 27 -/
def laws_szIntS.f (l0 : List Int) (a1 : Int) : Option (Int) := if (wrap64 (a1 - (l0.length : Int))) < 0 then (some (-1)) else (some (wrap64 (a1 - (l0.length : Int))))
set_option maxHeartbeats 8000000 in
set_option maxRecDepth 100000 in
theorem laws_szIntS.calls (A0 : Option Addr) (c0 : Nat) (l0 : List Int) (a1 : Int) (r : Int) (w : World) (bi : Kd.C (Kd.int .i64) w A0 l0.length l0) (bk : l0.length ≤ c0) (h : laws_szIntS.f l0 a1 = some r) :
  Calls Try.prog 27 #[.slice A0 l0.length c0, .int .i64 a1] w fun e w' => e = .returned (.int .i64 r) ∧ Drawn0 w w' := by
 have bx := zp.mk bi
 have dt := zp.mk bk
 clear bi bk
 have H : (if (wrap64 (a1 - (l0.length : Int))) < 0 then (some (-1)) else (some (wrap64 (a1 - (l0.length : Int))))) = some r := h
 clear h
 by_cases c3 : (wrap64 (a1 - (l0.length : Int))) < 0
 ·rw [if_pos c3] at H
  have ay : decide ((wrap64 (a1 - (l0.length : Int))) < 0) = true := decide_eq_true c3
  clear c3
  obtain rfl := Option.some.inj H
  go_enter Try.func27, Try.ntmps27
  go_wp2
  go_ret
  exact ⟨by first | rfl | (simp; done) | (simp [*]; done), by repeat (first | exact Drawn0.refl _ | apply Drawn0.step)⟩
 ·rw [if_neg c3] at H
  have ay : decide ((wrap64 (a1 - (l0.length : Int))) < 0) = false := decide_eq_false c3
  clear c3
  obtain rfl := Option.some.inj H
  go_enter Try.func27, Try.ntmps27
  go_wp2
  go_ret
  exact ⟨by first | rfl | (simp; done) | (simp [*]; done), by repeat (first | exact Drawn0.refl _ | apply Drawn0.step)⟩

/-! ### laws_szAgg: function 8 -/
def laws_szAgg.f (D : Int) (G : Int) (U : Int) (O : Int) (T : Int) (I : List Int) (a1 : Int) : Option (Int) := (laws_szIntS.f I a1).bind fun aD => (if aD < 0 then (some (-1)) else (some aD))
set_option maxHeartbeats 8000000 in
set_option maxRecDepth 100000 in
theorem laws_szAgg.calls (D : Int) (G : Int) (U : Int) (O : Int) (T : Int) (Y : Option Addr) (Z : Nat) (I : List Int) (a1 : Int) (r : Int) (w : World) (au : Kd.C (Kd.int .i64) w Y I.length I) (av : I.length ≤ Z) (h : laws_szAgg.f D G U O T I a1 = some r) :
  Calls Try.prog 8 #[.agg #[.int .i64 D, .int .i64 G, .int .u64 U, .int .i64 O, .int .i64 T, .slice Y I.length Z], .int .i64 a1] w fun e w' => e = .returned (.int .i64 r) ∧ Below w.heap.size w w' := by
 have em := Try.underlying27
 have aC := zp.mk au
 have az := zp.mk av
 clear au av
 have HB := zp.mk (Below.refl w.heap.size w)
 have H : ((laws_szIntS.f I a1).bind fun aD => (if aD < 0 then (some (-1)) else (some aD))) = some r := h
 clear h
 replace H := zs4 H
 obtain ⟨aD, bo, H⟩ := H
 replace H : (if aD < 0 then (some (-1)) else (some aD)) = some r := H
 have A3 := zp.mk bo
 clear bo
 by_cases c4 : aD < 0
 ·rw [if_pos c4] at H
  have a2 : decide (aD < 0) = true := decide_eq_true c4
  clear c4
  obtain rfl := Option.some.inj H
  go_enter Try.func8, Try.ntmps8
  go_wp2_with (first | ((with_reducible refine zo (N := 2) rfl ?_); refine zm ?hg (N := 2) ?hd (cs := #[.int .i64 D, .int .i64 G, .int .u64 U, .int .i64 O, .int .i64 T, .slice Y I.length Z]) (t := 27) ?hr ?_; (case hd => rfl); (case hg => rfl); (case hr => first | (go_simp; done) | (go_simp; rfl)); intro dr hg w5 hbox hb; have u := zp.mk (hbox); have dO := zp.mk ((zv3 (zv6 HB.out) hg)); have dg := zp.mk ((zv3 (zv6 HB.out) hg)); replace HB := zp.mk (zj (zv6 HB.out) hb); clear hb hbox hg; have cG := zt0 u.out; have cH := zt1 u.out; have cK := zt2 u.out; have cx := zt3 u.out; have cR := zt4 u.out; have cM := zt5 u.out; have cu := zd u.out 0; have cO := zd u.out 1; have cD := zd u.out 2; have cF := zd u.out 3; have cE := zd u.out 4; have cP := zd u.out 5) | ((with_reducible refine zn (f := 27) rfl ?_); refine goesL_ (some 8) rfl rfl Try.func27 (by kernel_rfl) rfl #[.slice Y I.length Z, .int .i64 a1] rfl (by (try simp only [List.map_toArray, List.map_cons, List.map_nil]); first | done | rfl | (simp only [List.length_drop, List.length_take]; rfl)) ?_; (with_reducible refine (laws_szIntS.calls _ _ I a1 aD _ ?side1 ?side2 A3.out).mono ?_); (case side1 => repeat (first | exact (Kd.zt aC.out HB.out) | (with_reducible refine Kd.zr ?_ _) | (with_reducible refine Kd.zq ?_ _) | (with_reducible refine Kd.C_drew ?_))); (case side2 => exact az.out); rintro e w' ⟨rfl, ⟨nd, rfl⟩⟩; refine ⟨_, rfl, ?_⟩))
  go_ret
  exact ⟨by first | rfl | (simp [errW_none, errW_some] <;> rfl) | (simp [*, errW_none, errW_some] <;> rfl), zv7 HB.out⟩
 ·rw [if_neg c4] at H
  have a2 : decide (aD < 0) = false := decide_eq_false c4
  clear c4
  obtain rfl := Option.some.inj H
  go_enter Try.func8, Try.ntmps8
  go_wp2_with (first | ((with_reducible refine zo (N := 2) rfl ?_); refine zm ?hg (N := 2) ?hd (cs := #[.int .i64 D, .int .i64 G, .int .u64 U, .int .i64 O, .int .i64 T, .slice Y I.length Z]) (t := 27) ?hr ?_; (case hd => rfl); (case hg => rfl); (case hr => first | (go_simp; done) | (go_simp; rfl)); intro dr hg w7 hbox hb; have u := zp.mk (hbox); have dO := zp.mk ((zv3 (zv6 HB.out) hg)); have dg := zp.mk ((zv3 (zv6 HB.out) hg)); replace HB := zp.mk (zj (zv6 HB.out) hb); clear hb hbox hg; have cL := zt0 u.out; have cQ := zt1 u.out; have ej := zt2 u.out; have d2 := zt3 u.out; have d1 := zt4 u.out; have dT := zt5 u.out; have cy := zd u.out 0; have cB := zd u.out 1; have d0 := zd u.out 2; have el := zd u.out 3; have eo := zd u.out 4; have ep := zd u.out 5) | ((with_reducible refine zn (f := 27) rfl ?_); refine goesL_ (some 8) rfl rfl Try.func27 (by kernel_rfl) rfl #[.slice Y I.length Z, .int .i64 a1] rfl (by (try simp only [List.map_toArray, List.map_cons, List.map_nil]); first | done | rfl | (simp only [List.length_drop, List.length_take]; rfl)) ?_; (with_reducible refine (laws_szIntS.calls _ _ I a1 aD _ ?side1 ?side2 A3.out).mono ?_); (case side1 => repeat (first | exact (Kd.zt aC.out HB.out) | (with_reducible refine Kd.zr ?_ _) | (with_reducible refine Kd.zq ?_ _) | (with_reducible refine Kd.C_drew ?_))); (case side2 => exact az.out); rintro e w' ⟨rfl, ⟨nd, rfl⟩⟩; refine ⟨_, rfl, ?_⟩))
  go_ret
  exact ⟨by first | rfl | (simp [errW_none, errW_some] <;> rfl) | (simp [*, errW_none, errW_some] <;> rfl), zv7 HB.out⟩

/-! ### laws_toIntS: function 20 -/
def laws_toIntS.l0 : Nat → List Int → List Int → Int → Option (List Int)
 | 0, _, _, _ => none
 | k + 1, x0, x3, x4 => if x4 < (x0.length : Int) then (if 0 ≤ x4 then (if x4 < (x3.length : Int) then (laws_toIntS.l0 k x0 (x3.set (x4 : Int).toNat (rd x0 x4)) (wrap64 (x4 + 1))) else (none)) else (none)) else (some x3)
def laws_toIntS.f (k : Nat) (l0 : List Int) : Option (List Int) := if 0 ≤ (l0.length : Int) then (if ((l0.length : Int) : Int).toNat ≤ 35184372088832 then (laws_toIntS.l0 k l0 (List.replicate ((l0.length : Int) : Int).toNat 0) 0) else (none)) else (none)
set_option maxHeartbeats 8000000 in
set_option maxRecDepth 100000 in
theorem laws_toIntS.calls (k : Nat) (A0 : Option Addr) (c0 : Nat) (l0 : List Int) (r : List Int) (w : World) (bi : Kd.C (Kd.int .i64) w A0 l0.length l0) (bk : l0.length ≤ c0) (h : laws_toIntS.f k l0 = some r) :
  Calls Try.prog 20 #[.slice A0 l0.length c0] w fun e w' => ∃ dX : Value, e = .returned (dX) ∧ Kd.R (Kd.int .i64) 3 w' w.heap.size (fun _ => True) dX r ∧ Below w.heap.size w w' := by
 have bx := zp.mk bi
 have dt := zp.mk bk
 clear bi bk
 have HB := zp.mk (Below.refl w.heap.size w)
 have H : (if 0 ≤ (l0.length : Int) then (if ((l0.length : Int) : Int).toNat ≤ 35184372088832 then (laws_toIntS.l0 k l0 (List.replicate ((l0.length : Int) : Int).toNat 0) 0) else (none)) else (none)) = some r := h
 clear h
 by_cases c2 : 0 ≤ (l0.length : Int)
 ·rw [if_pos c2] at H
  have ee := eq_true c2
  have d7 : decide (0 ≤ (l0.length : Int)) = true := decide_eq_true c2
  clear c2
  by_cases c3 : ((l0.length : Int) : Int).toNat ≤ 35184372088832
  ·rw [if_pos c3] at H
   have ay := eq_true c3
   have a4 : decide (((l0.length : Int) : Int).toNat ≤ 35184372088832) = true := decide_eq_true c3
   clear c3
   obtain ⟨cA, bq⟩ : ∃ y_ : List Int, y_ = (List.replicate ((l0.length : Int) : Int).toNat 0) := ⟨_, rfl⟩
   replace H : (laws_toIntS.l0 k l0 cA 0) = some r := by first | (rw [bq]; with_reducible exact H) | (have bm := (Option.bind_some _ _).symm.trans H; rw [bq]; with_reducible exact bm) | (have bm := (Option.bind_some _ _).symm.trans H; with_reducible exact bm) | with_reducible exact H | (rw [bq]; exact H) | exact H
   have bU := zp.mk bq
   clear bq
   have H' := zp.mk H
   clear H
   go_enter Try.func20, Try.ntmps20
   go_wp2_with (first | ((with_reducible refine zo (N := 7) rfl ?_); refine Kd.R_make (Kd.int .i64) _ 3 rfl (N := 7) rfl 25 _ _ rfl (l0.length : Int) rfl rfl Try.underlying25 (.int .i64 0) 8 info3 rfl (by decide) (by omega) 0 (ok := fun _ => True) (okp := fun _ => True) rfl (fun _ hk => hk) trivial (of_decide_eq_true (by first | (with_reducible assumption) | assumption)) (Nat.le_trans (Nat.mul_le_mul_right _ (of_decide_eq_true (by first | (with_reducible assumption) | assumption) : (l0.length : Int).toNat ≤ 35184372088832)) (by omega)) (Below.refl _ _) (Nat.le_refl _) ?_; intro es w4 cg hb hg_ hnew_; clear hg_ hnew_; (first | rw [← bU.out] at cg | (simp only [Int.reduceToNat] at cg; rw [← bU.out] at cg)); have cY := zp.mk (Kd.R_lower cg (zk (zv6 HB.out))); replace HB := zp.mk (zj (zv6 HB.out) hb); clear hb cg))
   go_loopg [4] k (fun kq v4 w' => ∃ (a5 : List Int) (ad : Int), v4 = .int .i64 ad ∧ zp (laws_toIntS.l0 kq l0 a5 ad = some r) ∧ zp (kq ≤ k) ∧ zp (Kd.R (Kd.int .i64) 3 w' w.heap.size (fun _ => True) es a5) ∧ zp (Below w.heap.size w w'))
   case atStart => exact ⟨(cA), (0), (by first | rfl | (simp; done) | (simp [*]; done)), H', ⟨Nat.le_refl _⟩, ⟨by (with_reducible repeat (first | apply Kd.R_alloc | apply Kd.R_drewN | apply Kd.R_drew)); exact cY.out⟩, ⟨zv6 HB.out⟩⟩
   case round =>
    clear H'
    try clear c2
    try clear ee
    try clear d7
    try clear p2
    try clear c3
    try clear ay
    try clear a4
    obtain ⟨a5, ad, rfl, HA, bg, bu, HB⟩ := hrel
    cases gk with
    | zero => exact absurd HA.out (by simp [laws_toIntS.l0])
    | succ k1 =>
     have H := HA.out
     clear HA
     simp only [laws_toIntS.l0] at H
     by_cases c6 : ad < (l0.length : Int)
     ·rw [if_pos c6] at H
      have bI : decide (ad < (l0.length : Int)) = true := decide_eq_true c6
      clear c6
      by_cases c7 : 0 ≤ ad
      ·rw [if_pos c7] at H
       have bJ : decide (0 ≤ ad) = true := decide_eq_true c7
       clear c7
       by_cases c8 : ad < (a5.length : Int)
       ·rw [if_pos c8] at H
        have jG : decide (ad < (a5.length : Int)) = true := decide_eq_true c8
        clear c8
        obtain ⟨ci, bf⟩ : ∃ y_ : List Int, y_ = (a5.set (ad : Int).toNat (rd l0 ad)) := ⟨_, rfl⟩
        replace H : (laws_toIntS.l0 k1 l0 ci (wrap64 (ad + 1))) = some r := by first | (rw [bf]; with_reducible exact H) | (have bm := (Option.bind_some _ _).symm.trans H; rw [bf]; with_reducible exact bm) | (have bm := (Option.bind_some _ _).symm.trans H; with_reducible exact bm) | with_reducible exact H | (rw [bf]; exact H) | exact H
        have dP := zp.mk bf
        clear bf
        have H' := zp.mk H
        clear H
        have ch : 0 ≤ (ad : Int) := of_decide_eq_true (by first | (with_reducible assumption) | assumption)
        have b7 : ad < (l0.length : Int) := of_decide_eq_true (by first | (with_reducible assumption) | assumption)
        obtain ⟨gc, ei, bb⟩ := Kd.at_int bx.out ad ch b7
        cases ei
        replace bb := (HB.out.cell (World.block_lt_of_cell? w _ bb)).trans bb
        replace ch := eq_true ch
        replace b7 := eq_true b7
        have p9 : 0 ≤ (ad : Int) := of_decide_eq_true (by first | (with_reducible assumption) | assumption)
        have q9 : (ad : Int) < ((a5.length : Int) : Int) := of_decide_eq_true (by first | (with_reducible assumption) | assumption)
        obtain ⟨dc, dZ, cq, dU, gx, j8, dV⟩ := Kd.R_form bu.out (by omega)
        (first | cases cq | (injection cq with ea_ en_ ec_; (first | subst ea_ | (injection ea_ with ea_; subst ea_)); subst ec_; clear en_))
        have gV := zp.mk dU
        have kd := zp.mk dV
        clear dU gx dV
        obtain ⟨hL, hP⟩ := Kd.R_celln 0 bu.out (ad : Int) p9 q9
        replace p9 := eq_true p9
        replace q9 := eq_true q9
        have b4 := Kd.R_putg bu.out (ad : Int) (rd l0 ad)
        go_wp2_with (first | ((with_reducible refine gate_store (t := 3) (p := 20) rfl ?_); refine store_event (t := 3) (p := 20) (v := ?vo_w11) (w1 := (wr.setCell ⟨dc, (ad : Int).toNat, none⟩ (.int .i64 (rd l0 ad)))) ?hg ?ho ?hn ?hr ?_; (case ho => rfl); (case hg => rfl); (case hn => rfl); (case hr => first | (go_simp; done) | (go_simp; rfl)); intro b0 hw; have hg : wr.grownBy b0 (some dc) := (by rw [hw]; exact b4.2); have hp_ : Kd.R (Kd.int .i64) 3 b0 w.heap.size (fun _ => True) (.slice (some ⟨dc, 0, none⟩) a5.length dZ) ci := (by rw [hw, dP.out]; exact b4.1); clear b4; replace bu := zp.mk (hp_); replace HB := zp.mk ((by rw [hw]; exact zh (HB.out) gV.out : Below w.heap.size w b0)); clear hg hw hp_))
        go_roundg k1
        case measure => have := bg.out; omega
        case rel => exact ⟨(ci), (wrap64 (ad + 1)), (by first | rfl | (simp; done) | (simp [*]; done)), H', ⟨by have := bg.out; omega⟩, ⟨by (with_reducible repeat (first | apply Kd.R_alloc | apply Kd.R_drewN | apply Kd.R_drew)); exact bu.out⟩, ⟨zv6 HB.out⟩⟩
       ·rw [if_neg c8] at H
        exact absurd H (by simp)
      ·rw [if_neg c7] at H
       exact absurd H (by simp)
     ·rw [if_neg c6] at H
      have bI : decide (ad < (l0.length : Int)) = false := decide_eq_false c6
      clear c6
      obtain rfl := Option.some.inj H
      go_wp2
      go_ret
      exact ⟨_, by first | rfl | (simp [errW_none, errW_some] <;> rfl) | (simp [*, errW_none, errW_some] <;> rfl), by (with_reducible repeat (first | apply Kd.R_alloc | apply Kd.R_drewN | apply Kd.R_drew)); exact bu.out, zv6 HB.out⟩
  ·rw [if_neg c3] at H
   exact absurd H (by simp)
 ·rw [if_neg c2] at H
  exact absurd H (by simp)

/-! ### laws_toWide: function 33 -/
def laws_toWide.f (D : Int) (G : Int) : Option (Int × Int) := some (D, G)
set_option maxHeartbeats 8000000 in
set_option maxRecDepth 100000 in
theorem laws_toWide.calls (D : Int) (G : Int) (r1 : Int) (r2 : Int) (w : World) (h : laws_toWide.f D G = some (r1, r2)) :
  Calls Try.prog 33 #[.agg #[.int .i64 D, .int .u64 G]] w fun e w' => e = .returned (.agg #[.int .i64 r1, .int .u64 r2]) ∧ Below w.heap.size w w' := by
 have eg := Try.underlying24
 have cb := Try.underlying30
 have HB := zp.mk (Below.refl w.heap.size w)
 have H : (some (D, G)) = some (r1, r2) := h
 clear h
 simp only [Option.some.injEq, Prod.mk.injEq] at H
 obtain ⟨rfl, rfl⟩ := H
 go_enter Try.func33, Try.ntmps33
 go_wp2_with (first | ((with_reducible refine zo (N := 1) rfl ?_); refine zm ?hg (N := 1) ?hd (cs := #[.int .i64 D, .int .u64 G]) (t := 24) ?hr ?_; (case hd => rfl); (case hg => rfl); (case hr => first | (go_simp; done) | (go_simp; rfl)); intro aJ hg w2 hbox hb; have ar := zp.mk (hbox); have jv := zp.mk ((zv3 (zv6 HB.out) hg)); have hI := zp.mk ((zv3 (zv6 HB.out) hg)); replace HB := zp.mk (zj (zv6 HB.out) hb); clear hb hbox hg) | ((with_reducible refine zo (N := 2) rfl ?_); refine zm ?hg (N := 2) ?hd (cs := #[.int .i64 0, .int .u64 0]) (t := 30) ?hr ?_; (case hd => rfl); (case hg => rfl); (case hr => first | (go_simp; done) | (go_simp; rfl)); intro aZ hg w3 hbox hb; have aH := zp.mk (hbox); have im := zp.mk ((zv3 (zv7 HB.out) hg)); have ge := zp.mk ((zv3 (zv7 HB.out) hg)); have bz := zp.mk ((by rw [hg]; exact Nat.ne_of_lt (blk_lt (g := aJ) (o := .cells #[.int .i64 D, .int .u64 G] 24 (0, 0)) (zv8 ar.out)) : aJ ≠ aZ)); have bD := zp.mk ((by rw [hg]; exact Nat.ne_of_gt (blk_lt (g := aJ) (o := .cells #[.int .i64 D, .int .u64 G] 24 (0, 0)) (zv8 ar.out)) : aZ ≠ aJ)); replace ar := zp.mk (zl (zv8 ar.out) hb); replace HB := zp.mk (zj (zv7 HB.out) hb); clear hb hbox hg) | ((with_reducible refine zo (N := 3) rfl ?_); refine zm ?hg (N := 3) ?hd (cs := #[.int .i64 0, .int .u64 0]) (t := 30) ?hr ?_; (case hd => rfl); (case hg => rfl); (case hr => first | (go_simp; done) | (go_simp; rfl)); intro bw hg w4 hbox hb; have bv := zp.mk (hbox); have ft := zp.mk ((zv3 (zv7 HB.out) hg)); have he := zp.mk ((zv3 (zv7 HB.out) hg)); have bC := zp.mk ((by rw [hg]; exact Nat.ne_of_lt (blk_lt (g := aJ) (o := .cells #[.int .i64 D, .int .u64 G] 24 (0, 0)) (zv8 ar.out)) : aJ ≠ bw)); have bH := zp.mk ((by rw [hg]; exact Nat.ne_of_gt (blk_lt (g := aJ) (o := .cells #[.int .i64 D, .int .u64 G] 24 (0, 0)) (zv8 ar.out)) : bw ≠ aJ)); have aX := zp.mk ((by rw [hg]; exact Nat.ne_of_lt (blk_lt (g := aZ) (o := .cells #[.int .i64 0, .int .u64 0] 30 (0, 0)) (zv8 aH.out)) : aZ ≠ bw)); have bE := zp.mk ((by rw [hg]; exact Nat.ne_of_gt (blk_lt (g := aZ) (o := .cells #[.int .i64 0, .int .u64 0] 30 (0, 0)) (zv8 aH.out)) : bw ≠ aZ)); replace ar := zp.mk (zl (zv8 ar.out) hb); replace aH := zp.mk (zl (zv8 aH.out) hb); replace HB := zp.mk (zj (zv7 HB.out) hb); clear hb hbox hg; have jC := bz.out; have jF := bD.out; have jE := bC.out; have jL := bH.out; have jI := zt0 ar.out; have jD := zt1 ar.out; have jz := zd ar.out 0; have jB := zd ar.out 1; have ef := bE.out; have eh := aX.out; have cC := zt0 bv.out; have cJ := zt1 bv.out; have cr := zd bv.out 0; have ct := zd bv.out 1; have eS := zt0 aH.out; have iK := zt1 aH.out; have fb := zd aH.out 0; have gp := zd aH.out 1))
 refine bodyPost_ret (results_cell_row rfl _ _ aZ 30 #[.int .i64 D, .int .u64 G] (0, 0) _ rfl (by (with_reducible repeat (first | refine zf ?_ _ | refine zi ?_ | refine zg ?_ _)); refine blk_put (cs := #[.int .i64 D, .int .u64 0]) ?_ 1 _ rfl; (with_reducible repeat (first | refine zf ?_ _ | refine zi ?_ | refine zg ?_ _)); refine blk_put (cs := #[.int .i64 0, .int .u64 0]) ?_ 0 _ rfl; (with_reducible repeat (first | refine zf ?_ _ | refine zi ?_ | refine zg ?_ _)); refine blk_far ?_ aX.out _; (with_reducible repeat (first | refine zf ?_ _ | refine zi ?_ | refine zg ?_ _)); refine blk_far ?_ aX.out _; (with_reducible repeat (first | refine zf ?_ _ | refine zi ?_ | refine zg ?_ _)); exact aH.out) Try.underlying30 rfl (by kernel_rfl)) rfl ?_
 exact ⟨by first | rfl | (simp [errW_none, errW_some] <;> rfl) | (simp [*, errW_none, errW_some] <;> rfl), zv7 HB.out⟩

/-! ### laws_toAgg: function 10 -/
def laws_toAgg.f (k : Nat) (D : Int) (G : Int) (U : Int) (O : Int) (T : Int) (I : List Int) : Option (Int × Int × Int × Int × Int × List Int) := (laws_toWide.f G U).bind fun bc => ((laws_toIntS.f k I).bind fun aN => (some (D, bc.1, bc.2, O, T, aN)))
set_option maxHeartbeats 8000000 in
set_option maxRecDepth 100000 in
theorem laws_toAgg.calls (k : Nat) (D : Int) (G : Int) (U : Int) (O : Int) (T : Int) (Y : Option Addr) (Z : Nat) (I : List Int) (r1 : Int) (r2 : Int) (r3 : Int) (r4 : Int) (r5 : Int) (r6 : List Int) (w : World) (au : Kd.C (Kd.int .i64) w Y I.length I) (av : I.length ≤ Z) (h : laws_toAgg.f k D G U O T I = some (r1, r2, r3, r4, r5, r6)) :
  Calls Try.prog 10 #[.agg #[.int .i64 D, .int .i64 G, .int .u64 U, .int .i64 O, .int .i64 T, .slice Y I.length Z]] w fun e w' => ∃ d8 : Value, e = .returned (.agg #[.int .i64 r1, .int .i64 r2, .int .u64 r3, .int .i64 r4, .int .i64 r5, d8]) ∧ Kd.R (Kd.int .i64) 3 w' w.heap.size (fun _ => True) d8 r6 ∧ Below w.heap.size w w' := by
 have em := Try.underlying27
 have bW := Try.underlying32
 have eg := Try.underlying24
 have cb := Try.underlying30
 have aC := zp.mk au
 have az := zp.mk av
 clear au av
 have HB := zp.mk (Below.refl w.heap.size w)
 have H : ((laws_toWide.f G U).bind fun bc => ((laws_toIntS.f k I).bind fun aN => (some (D, bc.1, bc.2, O, T, aN)))) = some (r1, r2, r3, r4, r5, r6) := h
 clear h
 replace H := zs4 H
 obtain ⟨⟨aG, aK⟩, dY, H⟩ := H
 replace H : ((laws_toIntS.f k I).bind fun aN => (some (D, aG, aK, O, T, aN))) = some (r1, r2, r3, r4, r5, r6) := H
 have A2 := zp.mk dY
 clear dY
 replace H := zs4 H
 obtain ⟨aN, bo, H⟩ := H
 replace H : (some (D, aG, aK, O, T, aN)) = some (r1, r2, r3, r4, r5, r6) := H
 have A3 := zp.mk bo
 clear bo
 simp only [Option.some.injEq, Prod.mk.injEq] at H
 obtain ⟨rfl, rfl, rfl, rfl, rfl, rfl⟩ := H
 go_enter Try.func10, Try.ntmps10
 go_wp2_with (first | ((with_reducible refine zo (N := 1) rfl ?_); refine zm ?hg (N := 1) ?hd (cs := #[.int .i64 D, .int .i64 G, .int .u64 U, .int .i64 O, .int .i64 T, .slice Y I.length Z]) (t := 27) ?hr ?_; (case hd => rfl); (case hg => rfl); (case hr => first | (go_simp; done) | (go_simp; rfl)); intro aA hg w4 hbox hb; have X := zp.mk (hbox); have jr := zp.mk ((zv3 (zv6 HB.out) hg)); have hG := zp.mk ((zv3 (zv6 HB.out) hg)); replace HB := zp.mk (zj (zv6 HB.out) hb); clear hb hbox hg) | ((with_reducible refine zo (N := 2) rfl ?_); refine zm ?hg (N := 2) ?hd (cs := #[.int .i64 0, .int .i64 0, .int .u64 0, .int .i64 0, .int .i64 0, .slice none 0 0]) (t := 32) ?hr ?_; (case hd => rfl); (case hg => rfl); (case hr => first | (go_simp; done) | (go_simp; rfl)); intro ai hg w5 hbox hb; have ac := zp.mk (hbox); have f5 := zp.mk ((zv3 (zv7 HB.out) hg)); have gK := zp.mk ((zv3 (zv7 HB.out) hg)); have bA := zp.mk ((by rw [hg]; exact Nat.ne_of_lt (blk_lt (g := aA) (o := .cells #[.int .i64 D, .int .i64 G, .int .u64 U, .int .i64 O, .int .i64 T, .slice Y I.length Z] 27 (0, 0)) (zv8 X.out)) : aA ≠ ai)); have bG := zp.mk ((by rw [hg]; exact Nat.ne_of_gt (blk_lt (g := aA) (o := .cells #[.int .i64 D, .int .i64 G, .int .u64 U, .int .i64 O, .int .i64 T, .slice Y I.length Z] 27 (0, 0)) (zv8 X.out)) : ai ≠ aA)); replace X := zp.mk (zl (zv8 X.out) hb); replace HB := zp.mk (zj (zv7 HB.out) hb); clear hb hbox hg) | ((with_reducible refine zo (N := 3) rfl ?_); refine zm ?hg (N := 3) ?hd (cs := #[.int .i64 0, .int .i64 0, .int .u64 0, .int .i64 0, .int .i64 0, .slice none 0 0]) (t := 32) ?hr ?_; (case hd => rfl); (case hg => rfl); (case hr => first | (go_simp; done) | (go_simp; rfl)); intro aY hg w6 hbox hb; have W := zp.mk (hbox); have it := zp.mk ((zv3 (zv7 HB.out) hg)); have ja := zp.mk ((zv3 (zv7 HB.out) hg)); have ap := zp.mk ((by rw [hg]; exact Nat.ne_of_lt (blk_lt (g := aA) (o := .cells #[.int .i64 D, .int .i64 G, .int .u64 U, .int .i64 O, .int .i64 T, .slice Y I.length Z] 27 (0, 0)) (zv8 X.out)) : aA ≠ aY)); have bB := zp.mk ((by rw [hg]; exact Nat.ne_of_gt (blk_lt (g := aA) (o := .cells #[.int .i64 D, .int .i64 G, .int .u64 U, .int .i64 O, .int .i64 T, .slice Y I.length Z] 27 (0, 0)) (zv8 X.out)) : aY ≠ aA)); have ag := zp.mk ((by rw [hg]; exact Nat.ne_of_lt (blk_lt (g := ai) (o := .cells #[.int .i64 0, .int .i64 0, .int .u64 0, .int .i64 0, .int .i64 0, .slice none 0 0] 32 (0, 0)) (zv8 ac.out)) : ai ≠ aY)); have bF := zp.mk ((by rw [hg]; exact Nat.ne_of_gt (blk_lt (g := ai) (o := .cells #[.int .i64 0, .int .i64 0, .int .u64 0, .int .i64 0, .int .i64 0, .slice none 0 0] 32 (0, 0)) (zv8 ac.out)) : aY ≠ ai)); replace X := zp.mk (zl (zv8 X.out) hb); replace ac := zp.mk (zl (zv8 ac.out) hb); replace HB := zp.mk (zj (zv7 HB.out) hb); clear hb hbox hg; have ez := bA.out; have et := bG.out; have ef := ap.out; have eh := bB.out; have cC := zt0 X.out; have cJ := zt1 X.out; have jM := zt2 X.out; have jO := zt3 X.out; have jx := zt4 X.out; have jA := zt5 X.out; have cr := zd X.out 0; have ct := zd X.out 1; have jK := zd X.out 2; have jN := zd X.out 3; have jJ := zd X.out 4; have jH := zd X.out 5; have gm := bF.out; have fI := ag.out; have ji := zt0 W.out; have i2 := zt1 W.out; have iU := zt2 W.out; have e2 := zt3 W.out; have gB := zt4 W.out; have fN := zt5 W.out; have fo := zd W.out 0; have gs := zd W.out 1; have e6 := zd W.out 2; have iT := zd W.out 3; have hZ := zd W.out 4; have eC := zd W.out 5) | ((with_reducible refine zn (f := 33) rfl ?_); refine goesL_ (some 9) rfl rfl Try.func33 (by kernel_rfl) rfl #[.agg #[.int .i64 G, .int .u64 U]] rfl (by (try simp only [List.map_toArray, List.map_cons, List.map_nil]); first | done | rfl | (simp only [List.length_drop, List.length_take]; rfl)) ?_; (with_reducible refine (laws_toWide.calls G U aG aK _ A2.out).mono ?_); rintro e j3 ⟨rfl, hb⟩; refine ⟨_, rfl, ?_⟩; replace X := zp.mk (zl (g := aA) (o := .cells #[.int .i64 D, .int .i64 G, .int .u64 U, .int .i64 O, .int .i64 T, .slice Y I.length Z] 27 (0, 0)) (by (with_reducible repeat (first | refine zf ?_ _ | refine zi ?_ | refine zg ?_ _)); refine blk_far ?_ ap.out _; (with_reducible repeat (first | refine zf ?_ _ | refine zi ?_ | refine zg ?_ _)); exact X.out) hb); replace ac := zp.mk (zl (g := ai) (o := .cells #[.int .i64 0, .int .i64 0, .int .u64 0, .int .i64 0, .int .i64 0, .slice none 0 0] 32 (0, 0)) (by (with_reducible repeat (first | refine zf ?_ _ | refine zi ?_ | refine zg ?_ _)); refine blk_far ?_ ag.out _; (with_reducible repeat (first | refine zf ?_ _ | refine zi ?_ | refine zg ?_ _)); exact ac.out) hb); replace W := zp.mk (zl (g := aY) (o := .cells #[.int .i64 D, .int .i64 0, .int .u64 0, .int .i64 0, .int .i64 0, .slice none 0 0] 32 (0, 0)) (by (with_reducible repeat (first | refine zf ?_ _ | refine zi ?_ | refine zg ?_ _)); refine blk_put (cs := #[.int .i64 0, .int .i64 0, .int .u64 0, .int .i64 0, .int .i64 0, .slice none 0 0]) ?_ 0 _ rfl; (with_reducible repeat (first | refine zf ?_ _ | refine zi ?_ | refine zg ?_ _)); exact W.out) hb); replace HB := zp.mk (zj (zv7 HB.out) hb); (try clear hb); (try clear hb2); (try clear hk); (try clear hi); have b9 := zt0 W.out; have cm := zt1 W.out; have cX := zt2 W.out; have dm := zt3 W.out; have dn := zt4 W.out; have dv := zt5 W.out; have b2 := zd W.out 0; have bX := zd W.out 1; have dS := zd W.out 2; have cU := zd W.out 3; have du := zd W.out 4; have cV := zd W.out 5; have cd := zt0 X.out; have b6 := zt1 X.out; have dk := zt2 X.out; have dD := zt3 X.out; have dK := zt4 X.out; have dx := zt5 X.out; have b1 := zd X.out 0; have bZ := zd X.out 1; have dH := zd X.out 2; have dl := zd X.out 3; have dL := zd X.out 4; have dw := zd X.out 5) | ((with_reducible refine zn (f := 20) rfl ?_); refine goesL_ (some 19) rfl rfl Try.func20 (by kernel_rfl) rfl #[.slice Y I.length Z] rfl (by (try simp only [List.map_toArray, List.map_cons, List.map_nil]); first | done | rfl | (simp only [List.length_drop, List.length_take]; rfl)) ?_; (with_reducible refine (laws_toIntS.calls k _ _ I aN _ ?side1 ?side2 A3.out).mono ?_); (case side1 => exact Kd.zt aC.out (zv7 HB.out)); (case side2 => exact az.out); rintro e d3 ⟨jy, rfl, cn, hb⟩; refine ⟨_, rfl, ?_⟩; have bS := zp.mk (Kd.R_lower cn (zk (zv7 HB.out))); replace X := zp.mk (zl (g := aA) (o := .cells #[.int .i64 D, .int .i64 G, .int .u64 U, .int .i64 O, .int .i64 T, .slice Y I.length Z] 27 (0, 0)) (by (with_reducible repeat (first | refine zf ?_ _ | refine zi ?_ | refine zg ?_ _)); refine blk_far ?_ ap.out _; (with_reducible repeat (first | refine zf ?_ _ | refine zi ?_ | refine zg ?_ _)); refine blk_far ?_ ap.out _; (with_reducible repeat (first | refine zf ?_ _ | refine zi ?_ | refine zg ?_ _)); refine blk_far ?_ ap.out _; (with_reducible repeat (first | refine zf ?_ _ | refine zi ?_ | refine zg ?_ _)); refine blk_far ?_ ap.out _; (with_reducible repeat (first | refine zf ?_ _ | refine zi ?_ | refine zg ?_ _)); exact X.out) hb); replace ac := zp.mk (zl (g := ai) (o := .cells #[.int .i64 0, .int .i64 0, .int .u64 0, .int .i64 0, .int .i64 0, .slice none 0 0] 32 (0, 0)) (by (with_reducible repeat (first | refine zf ?_ _ | refine zi ?_ | refine zg ?_ _)); refine blk_far ?_ ag.out _; (with_reducible repeat (first | refine zf ?_ _ | refine zi ?_ | refine zg ?_ _)); refine blk_far ?_ ag.out _; (with_reducible repeat (first | refine zf ?_ _ | refine zi ?_ | refine zg ?_ _)); refine blk_far ?_ ag.out _; (with_reducible repeat (first | refine zf ?_ _ | refine zi ?_ | refine zg ?_ _)); refine blk_far ?_ ag.out _; (with_reducible repeat (first | refine zf ?_ _ | refine zi ?_ | refine zg ?_ _)); exact ac.out) hb); replace W := zp.mk (zl (g := aY) (o := .cells #[.int .i64 D, .int .i64 aG, .int .u64 aK, .int .i64 O, .int .i64 T, .slice none 0 0] 32 (0, 0)) (by (with_reducible repeat (first | refine zf ?_ _ | refine zi ?_ | refine zg ?_ _)); refine blk_put (cs := #[.int .i64 D, .int .i64 aG, .int .u64 aK, .int .i64 O, .int .i64 0, .slice none 0 0]) ?_ 4 _ rfl; (with_reducible repeat (first | refine zf ?_ _ | refine zi ?_ | refine zg ?_ _)); refine blk_put (cs := #[.int .i64 D, .int .i64 aG, .int .u64 aK, .int .i64 0, .int .i64 0, .slice none 0 0]) ?_ 3 _ rfl; (with_reducible repeat (first | refine zf ?_ _ | refine zi ?_ | refine zg ?_ _)); refine blk_put (cs := #[.int .i64 D, .int .i64 aG, .int .u64 0, .int .i64 0, .int .i64 0, .slice none 0 0]) ?_ 2 _ rfl; (with_reducible repeat (first | refine zf ?_ _ | refine zi ?_ | refine zg ?_ _)); refine blk_put (cs := #[.int .i64 D, .int .i64 0, .int .u64 0, .int .i64 0, .int .i64 0, .slice none 0 0]) ?_ 1 _ rfl; (with_reducible repeat (first | refine zf ?_ _ | refine zi ?_ | refine zg ?_ _)); exact W.out) hb); replace HB := zp.mk (zj (zv7 HB.out) hb); (try clear hb); (try clear hb2); (try clear hk); (try clear hi); (try clear cn); obtain ⟨bV, bL, er⟩ := Kd.R_slice bS.out; subst er; have dN := zt0 W.out; have cS := zt1 W.out; have cZ := zt2 W.out; have dz := zt3 W.out; have dC := zt4 W.out; have cT := zt5 W.out; have dB := zd W.out 0; have dJ := zd W.out 1; have dh := zd W.out 2; have dI := zd W.out 3; have dq := zd W.out 4; have dA := zd W.out 5; have df := zt0 ac.out; have dG := zt1 ac.out; have hC := zt2 ac.out; have eH := zt3 ac.out; have h5 := zt4 ac.out; have gw := zt5 ac.out; have dR := zd ac.out 0; have de := zd ac.out 1; have gW := zd ac.out 2; have jt := zd ac.out 3; have iC := zd ac.out 4; have hR := zd ac.out 5))
 refine bodyPost_ret (results_cell_row rfl _ _ ai 32 #[.int .i64 D, .int .i64 aG, .int .u64 aK, .int .i64 O, .int .i64 T, .slice bV aN.length bL] (0, 0) _ rfl (by (with_reducible repeat (first | refine zf ?_ _ | refine zi ?_ | refine zg ?_ _)); refine blk_put (cs := #[.int .i64 D, .int .i64 aG, .int .u64 aK, .int .i64 O, .int .i64 T, .slice none 0 0]) ?_ 5 _ rfl; (with_reducible repeat (first | refine zf ?_ _ | refine zi ?_ | refine zg ?_ _)); refine blk_put (cs := #[.int .i64 D, .int .i64 aG, .int .u64 aK, .int .i64 O, .int .i64 0, .slice none 0 0]) ?_ 4 _ rfl; (with_reducible repeat (first | refine zf ?_ _ | refine zi ?_ | refine zg ?_ _)); refine blk_put (cs := #[.int .i64 D, .int .i64 aG, .int .u64 aK, .int .i64 0, .int .i64 0, .slice none 0 0]) ?_ 3 _ rfl; (with_reducible repeat (first | refine zf ?_ _ | refine zi ?_ | refine zg ?_ _)); refine blk_put (cs := #[.int .i64 D, .int .i64 aG, .int .u64 0, .int .i64 0, .int .i64 0, .slice none 0 0]) ?_ 2 _ rfl; (with_reducible repeat (first | refine zf ?_ _ | refine zi ?_ | refine zg ?_ _)); refine blk_put (cs := #[.int .i64 D, .int .i64 0, .int .u64 0, .int .i64 0, .int .i64 0, .slice none 0 0]) ?_ 1 _ rfl; (with_reducible repeat (first | refine zf ?_ _ | refine zi ?_ | refine zg ?_ _)); refine blk_put (cs := #[.int .i64 0, .int .i64 0, .int .u64 0, .int .i64 0, .int .i64 0, .slice none 0 0]) ?_ 0 _ rfl; (with_reducible repeat (first | refine zf ?_ _ | refine zi ?_ | refine zg ?_ _)); refine blk_far ?_ ag.out _; (with_reducible repeat (first | refine zf ?_ _ | refine zi ?_ | refine zg ?_ _)); exact ac.out) Try.underlying32 rfl (by kernel_rfl)) rfl ?_
 exact ⟨_, by first | rfl | (simp [errW_none, errW_some] <;> rfl) | (simp [*, errW_none, errW_some] <;> rfl), by (with_reducible repeat (first | apply Kd.R_alloc | apply Kd.R_drewN | apply Kd.R_drew)); exact Kd.R_mono (Kd.R_far (p := ⟨ai, 5, none⟩) (Kd.R_far (p := ⟨ai, 4, none⟩) (Kd.R_far (p := ⟨ai, 3, none⟩) (Kd.R_far (p := ⟨ai, 2, none⟩) (Kd.R_far (p := ⟨ai, 1, none⟩) (Kd.R_far (p := ⟨ai, 0, none⟩) (Kd.R_far (p := ⟨aY, 5, none⟩) (Kd.R_types (Kd.R_types bS.out W.out (by decide)) ac.out (by decide)) (fun _ hk => hk.1.2) (.slice bV aN.length bL)) (fun _ hk => hk.2) (.int .i64 D)) (fun _ hk => hk.2) (.int .i64 aG)) (fun _ hk => hk.2) (.int .u64 aK)) (fun _ hk => hk.2) (.int .i64 O)) (fun _ hk => hk.2) (.int .i64 T)) (fun _ hk => hk.2) (.slice bV aN.length bL)) (fun _ hk => trivial), zv7 HB.out⟩

/-! ### laws_eqIntS: function 15 -/
def laws_eqIntS.l0 : Nat → List Int → List Int → Int → Option (Bool)
 | 0, _, _, _ => none
 | k + 1, x0, x1, x5 => if x5 < (x0.length : Int) then (if 0 ≤ x5 then (if x5 < (x1.length : Int) then (if (rd x0 x5) = (rd x1 x5) then (laws_eqIntS.l0 k x0 x1 (wrap64 (x5 + 1))) else (some false)) else (none)) else (none)) else (some true)
def laws_eqIntS.f (k : Nat) (l0 : List Int) (l1 : List Int) : Option (Bool) := if (l0.length : Int) = (l1.length : Int) then (laws_eqIntS.l0 k l0 l1 0) else (some false)
set_option maxHeartbeats 8000000 in
set_option maxRecDepth 100000 in
theorem laws_eqIntS.calls (k : Nat) (A0 : Option Addr) (c0 : Nat) (l0 : List Int) (A1 : Option Addr) (c1 : Nat) (l1 : List Int) (r : Bool) (w : World) (bi : Kd.C (Kd.int .i64) w A0 l0.length l0) (bk : l0.length ≤ c0) (ed : Kd.C (Kd.int .i64) w A1 l1.length l1) (ev : l1.length ≤ c1) (h : laws_eqIntS.f k l0 l1 = some r) :
  Calls Try.prog 15 #[.slice A0 l0.length c0, .slice A1 l1.length c1] w fun e w' => e = .returned (.bool r) ∧ Drawn0 w w' := by
 have bx := zp.mk bi
 have dt := zp.mk bk
 clear bi bk
 have dW := zp.mk ed
 have j5 := zp.mk ev
 clear ed ev
 have H : (if (l0.length : Int) = (l1.length : Int) then (laws_eqIntS.l0 k l0 l1 0) else (some false)) = some r := h
 clear h
 by_cases c3 : (l0.length : Int) = (l1.length : Int)
 ·rw [if_pos c3] at H
  have ay : ((l0.length : Int) == (l1.length : Int)) = true := beq_iff_eq.mpr c3
  have a4 : ((l0.length : Int) != (l1.length : Int)) = false := bne_eq_false_iff_eq.mpr c3
  have cz : (l0.length == l1.length) = true := by first | simpa using c3 | (simp at c3 ⊢; omega)
  clear c3
  have H' := zp.mk H
  clear H
  go_enter Try.func15, Try.ntmps15
  go_wp2
  repeat (go_quiet (fail); try go_wp2)
  go_loopg [5] k (fun kq v5 w' => ∃ (J : Int), v5 = .int .i64 J ∧ zp (laws_eqIntS.l0 kq l0 l1 J = some r) ∧ zp (kq ≤ k) ∧ Drawn0 w w')
  case atStart => exact ⟨(0), (by first | rfl | (simp; done) | (simp [*]; done)), H', ⟨Nat.le_refl _⟩, by repeat (first | exact Drawn0.refl _ | apply Drawn0.step)⟩
  case round =>
   clear H'
   try clear c1
   try clear p2
   try clear c3
   try clear ay
   try clear a4
   try clear cz
   obtain ⟨J, rfl, HA, bg, ⟨m1, rfl⟩⟩ := hrel
   cases gk with
   | zero => exact absurd HA.out (by simp [laws_eqIntS.l0])
   | succ k1 =>
    have H := HA.out
    clear HA
    simp only [laws_eqIntS.l0] at H
    by_cases c4 : J < (l0.length : Int)
    ·rw [if_pos c4] at H
     have a2 : decide (J < (l0.length : Int)) = true := decide_eq_true c4
     clear c4
     by_cases c5 : 0 ≤ J
     ·rw [if_pos c5] at H
      have cv : decide (0 ≤ J) = true := decide_eq_true c5
      clear c5
      by_cases c6 : J < (l1.length : Int)
      ·rw [if_pos c6] at H
       have bI : decide (J < (l1.length : Int)) = true := decide_eq_true c6
       clear c6
       by_cases c7 : (rd l0 J) = (rd l1 J)
       ·rw [if_pos c7] at H
        have bJ : ((rd l0 J) == (rd l1 J)) = true := beq_iff_eq.mpr c7
        have bM : ((rd l0 J) != (rd l1 J)) = false := bne_eq_false_iff_eq.mpr c7
        clear c7
        have H' := zp.mk H
        clear H
        have bj : 0 ≤ (J : Int) := of_decide_eq_true (by first | (with_reducible assumption) | assumption)
        have bd : J < (l0.length : Int) := of_decide_eq_true (by first | (with_reducible assumption) | assumption)
        obtain ⟨cW, bY, cf⟩ := Kd.at_int bx.out J bj bd
        cases bY
        replace bj := eq_true bj
        replace bd := eq_true bd
        have a6 : 0 ≤ (J : Int) := of_decide_eq_true (by first | (with_reducible assumption) | assumption)
        have bl : J < (l1.length : Int) := of_decide_eq_true (by first | (with_reducible assumption) | assumption)
        obtain ⟨da, b8, ca⟩ := Kd.at_int dW.out J a6 bl
        cases b8
        replace a6 := eq_true a6
        replace bl := eq_true bl
        go_wp2
        repeat (go_quiet (fail); try go_wp2)
        go_roundg k1
        case measure => have := bg.out; omega
        case rel => exact ⟨(wrap64 (J + 1)), (by first | rfl | (simp; done) | (simp [*]; done)), H', ⟨by have := bg.out; omega⟩, by repeat (first | exact Drawn0.refl _ | apply Drawn0.step)⟩
       ·rw [if_neg c7] at H
        have bJ : ((rd l0 J) == (rd l1 J)) = false := beq_eq_false_iff_ne.mpr c7
        have bM : ((rd l0 J) != (rd l1 J)) = true := bne_iff_ne.mpr c7
        obtain rfl := Option.some.inj H
        have bj : 0 ≤ (J : Int) := of_decide_eq_true (by first | (with_reducible assumption) | assumption)
        have bd : J < (l0.length : Int) := of_decide_eq_true (by first | (with_reducible assumption) | assumption)
        obtain ⟨cW, bY, cf⟩ := Kd.at_int bx.out J bj bd
        cases bY
        replace bj := eq_true bj
        replace bd := eq_true bd
        have a6 : 0 ≤ (J : Int) := of_decide_eq_true (by first | (with_reducible assumption) | assumption)
        have bl : J < (l1.length : Int) := of_decide_eq_true (by first | (with_reducible assumption) | assumption)
        obtain ⟨da, b8, ca⟩ := Kd.at_int dW.out J a6 bl
        cases b8
        replace a6 := eq_true a6
        replace bl := eq_true bl
        go_wp2
        repeat (go_quiet (fail); try go_wp2)
        go_ret
        exact ⟨by first | rfl | (simp; done) | (simp [*]; done), by repeat (first | exact Drawn0.refl _ | apply Drawn0.step)⟩
      ·rw [if_neg c6] at H
       exact absurd H (by simp)
     ·rw [if_neg c5] at H
      exact absurd H (by simp)
    ·rw [if_neg c4] at H
     have a2 : decide (J < (l0.length : Int)) = false := decide_eq_false c4
     clear c4
     obtain rfl := Option.some.inj H
     go_wp2
     repeat (go_quiet (fail); try go_wp2)
     go_ret
     exact ⟨by first | rfl | (simp; done) | (simp [*]; done), by repeat (first | exact Drawn0.refl _ | apply Drawn0.step)⟩
 ·rw [if_neg c3] at H
  have ay : ((l0.length : Int) == (l1.length : Int)) = false := beq_eq_false_iff_ne.mpr c3
  have a4 : ((l0.length : Int) != (l1.length : Int)) = true := bne_iff_ne.mpr c3
  have cz : (l0.length == l1.length) = false := by first | simpa using c3 | (simp at c3 ⊢; omega)
  obtain rfl := Option.some.inj H
  go_enter Try.func15, Try.ntmps15
  go_wp2
  repeat (go_quiet (fail); try go_wp2)
  go_ret
  exact ⟨by first | rfl | (simp; done) | (simp [*]; done), by repeat (first | exact Drawn0.refl _ | apply Drawn0.step)⟩

/-! ### laws_eqWide: function 35 -/
def laws_eqWide.f (D : Int) (G : Int) (ab : Int) (s : Int) : Option (Bool) := if D = ab then (if G = s then (some true) else (some false)) else (some false)
set_option maxHeartbeats 8000000 in
set_option maxRecDepth 100000 in
theorem laws_eqWide.calls (D : Int) (G : Int) (ab : Int) (s : Int) (r : Bool) (w : World) (h : laws_eqWide.f D G ab s = some r) :
  Calls Try.prog 35 #[.agg #[.int .i64 D, .int .u64 G], .agg #[.int .i64 ab, .int .u64 s]] w fun e w' => e = .returned (.bool r) ∧ Below w.heap.size w w' := by
 have cb := Try.underlying30
 have HB := zp.mk (Below.refl w.heap.size w)
 have H : (if D = ab then (if G = s then (some true) else (some false)) else (some false)) = some r := h
 clear h
 by_cases c3 : D = ab
 ·rw [if_pos c3] at H
  have ay : (D == ab) = true := beq_iff_eq.mpr c3
  have a4 : (D != ab) = false := bne_eq_false_iff_eq.mpr c3
  clear c3
  by_cases c4 : G = s
  ·rw [if_pos c4] at H
   have a2 : (G == s) = true := beq_iff_eq.mpr c4
   have d9 : (G != s) = false := bne_eq_false_iff_eq.mpr c4
   clear c4
   obtain rfl := Option.some.inj H
   go_enter Try.func35, Try.ntmps35
   go_wp2_with (first | ((with_reducible refine zo (N := 2) rfl ?_); refine zm ?hg (N := 2) ?hd (cs := #[.int .i64 D, .int .u64 G]) (t := 30) ?hr ?_; (case hd => rfl); (case hg => rfl); (case hr => first | (go_simp; done) | (go_simp; rfl)); intro ak hg w5 hbox hb; have q := zp.mk (hbox); have bT := zp.mk ((zv3 (zv6 HB.out) hg)); have ck := zp.mk ((zv3 (zv6 HB.out) hg)); replace HB := zp.mk (zj (zv6 HB.out) hb); clear hb hbox hg) | ((with_reducible refine zo (N := 3) rfl ?_); refine zm ?hg (N := 3) ?hd (cs := #[.int .i64 ab, .int .u64 s]) (t := 30) ?hr ?_; (case hd => rfl); (case hg => rfl); (case hr => first | (go_simp; done) | (go_simp; rfl)); intro aQ hg w6 hbox hb; have al := zp.mk (hbox); have bP := zp.mk ((zv3 (zv7 HB.out) hg)); have cj := zp.mk ((zv3 (zv7 HB.out) hg)); have ax := zp.mk ((by rw [hg]; exact Nat.ne_of_lt (blk_lt (g := ak) (o := .cells #[.int .i64 D, .int .u64 G] 30 (0, 0)) (zv8 q.out)) : ak ≠ aQ)); have aw := zp.mk ((by rw [hg]; exact Nat.ne_of_gt (blk_lt (g := ak) (o := .cells #[.int .i64 D, .int .u64 G] 30 (0, 0)) (zv8 q.out)) : aQ ≠ ak)); replace q := zp.mk (zl (zv8 q.out) hb); replace HB := zp.mk (zj (zv7 HB.out) hb); clear hb hbox hg; have ez := ax.out; have et := aw.out; have cL := zt0 q.out; have cQ := zt1 q.out; have cy := zd q.out 0; have cB := zd q.out 1; have cC := zt0 al.out; have cJ := zt1 al.out; have cr := zd al.out 0; have ct := zd al.out 1))
   go_ret
   exact ⟨by first | rfl | (simp [errW_none, errW_some] <;> rfl) | (simp [*, errW_none, errW_some] <;> rfl), zv7 HB.out⟩
  ·rw [if_neg c4] at H
   have a2 : (G == s) = false := beq_eq_false_iff_ne.mpr c4
   have d9 : (G != s) = true := bne_iff_ne.mpr c4
   obtain rfl := Option.some.inj H
   go_enter Try.func35, Try.ntmps35
   go_wp2_with (first | ((with_reducible refine zo (N := 2) rfl ?_); refine zm ?hg (N := 2) ?hd (cs := #[.int .i64 D, .int .u64 G]) (t := 30) ?hr ?_; (case hd => rfl); (case hg => rfl); (case hr => first | (go_simp; done) | (go_simp; rfl)); intro ak hg ga hbox hb; have q := zp.mk (hbox); have bT := zp.mk ((zv3 (zv6 HB.out) hg)); have ck := zp.mk ((zv3 (zv6 HB.out) hg)); replace HB := zp.mk (zj (zv6 HB.out) hb); clear hb hbox hg) | ((with_reducible refine zo (N := 3) rfl ?_); refine zm ?hg (N := 3) ?hd (cs := #[.int .i64 ab, .int .u64 s]) (t := 30) ?hr ?_; (case hd => rfl); (case hg => rfl); (case hr => first | (go_simp; done) | (go_simp; rfl)); intro aQ hg b0 hbox hb; have al := zp.mk (hbox); have bP := zp.mk ((zv3 (zv7 HB.out) hg)); have cj := zp.mk ((zv3 (zv7 HB.out) hg)); have ax := zp.mk ((by rw [hg]; exact Nat.ne_of_lt (blk_lt (g := ak) (o := .cells #[.int .i64 D, .int .u64 G] 30 (0, 0)) (zv8 q.out)) : ak ≠ aQ)); have aw := zp.mk ((by rw [hg]; exact Nat.ne_of_gt (blk_lt (g := ak) (o := .cells #[.int .i64 D, .int .u64 G] 30 (0, 0)) (zv8 q.out)) : aQ ≠ ak)); replace q := zp.mk (zl (zv8 q.out) hb); replace HB := zp.mk (zj (zv7 HB.out) hb); clear hb hbox hg; have dM := ax.out; have dE := aw.out; have b9 := zt0 q.out; have cm := zt1 q.out; have b2 := zd q.out 0; have bX := zd q.out 1; have cd := zt0 al.out; have b6 := zt1 al.out; have b1 := zd al.out 0; have bZ := zd al.out 1))
   go_ret
   exact ⟨by first | rfl | (simp [errW_none, errW_some] <;> rfl) | (simp [*, errW_none, errW_some] <;> rfl), zv7 HB.out⟩
 ·rw [if_neg c3] at H
  have ay : (D == ab) = false := beq_eq_false_iff_ne.mpr c3
  have a4 : (D != ab) = true := bne_iff_ne.mpr c3
  obtain rfl := Option.some.inj H
  go_enter Try.func35, Try.ntmps35
  go_wp2_with (first | ((with_reducible refine zo (N := 2) rfl ?_); refine zm ?hg (N := 2) ?hd (cs := #[.int .i64 D, .int .u64 G]) (t := 30) ?hr ?_; (case hd => rfl); (case hg => rfl); (case hr => first | (go_simp; done) | (go_simp; rfl)); intro ak hg d3 hbox hb; have q := zp.mk (hbox); have bT := zp.mk ((zv3 (zv6 HB.out) hg)); have ck := zp.mk ((zv3 (zv6 HB.out) hg)); replace HB := zp.mk (zj (zv6 HB.out) hb); clear hb hbox hg) | ((with_reducible refine zo (N := 3) rfl ?_); refine zm ?hg (N := 3) ?hd (cs := #[.int .i64 ab, .int .u64 s]) (t := 30) ?hr ?_; (case hd => rfl); (case hg => rfl); (case hr => first | (go_simp; done) | (go_simp; rfl)); intro aQ hg j7 hbox hb; have al := zp.mk (hbox); have bP := zp.mk ((zv3 (zv7 HB.out) hg)); have cj := zp.mk ((zv3 (zv7 HB.out) hg)); have ax := zp.mk ((by rw [hg]; exact Nat.ne_of_lt (blk_lt (g := ak) (o := .cells #[.int .i64 D, .int .u64 G] 30 (0, 0)) (zv8 q.out)) : ak ≠ aQ)); have aw := zp.mk ((by rw [hg]; exact Nat.ne_of_gt (blk_lt (g := ak) (o := .cells #[.int .i64 D, .int .u64 G] 30 (0, 0)) (zv8 q.out)) : aQ ≠ ak)); replace q := zp.mk (zl (zv8 q.out) hb); replace HB := zp.mk (zj (zv7 HB.out) hb); clear hb hbox hg; have iW := ax.out; have i7 := aw.out; have df := zt0 q.out; have dG := zt1 q.out; have dR := zd q.out 0; have de := zd q.out 1; have fe := zt0 al.out; have g6 := zt1 al.out; have gQ := zd al.out 0; have fS := zd al.out 1))
  go_ret
  exact ⟨by first | rfl | (simp [errW_none, errW_some] <;> rfl) | (simp [*, errW_none, errW_some] <;> rfl), zv7 HB.out⟩

/-! ### laws_eqAgg: function 12 -/
def laws_eqAgg.f (k : Nat) (D : Int) (G : Int) (U : Int) (O : Int) (T : Int) (I : List Int) (ab : Int) (s : Int) (af : Int) (an : Int) (ao : Int) (aj : List Int) : Option (Bool) := if D = ab then ((laws_eqWide.f G U s af).bind fun bs => (if bs = true then (if O = an then (if T = ao then ((laws_eqIntS.f k I aj).bind fun aU => (if aU = true then (some true) else (some false))) else (some false)) else (some false)) else (some false))) else (some false)
set_option maxHeartbeats 8000000 in
set_option maxRecDepth 100000 in
theorem laws_eqAgg.calls (k : Nat) (D : Int) (G : Int) (U : Int) (O : Int) (T : Int) (Y : Option Addr) (Z : Nat) (I : List Int) (ab : Int) (s : Int) (af : Int) (an : Int) (ao : Int) (aW : Option Addr) (aT : Nat) (aj : List Int) (r : Bool) (w : World) (au : Kd.C (Kd.int .i64) w Y I.length I) (av : I.length ≤ Z) (bK : Kd.C (Kd.int .i64) w aW aj.length aj) (cc : aj.length ≤ aT) (h : laws_eqAgg.f k D G U O T I ab s af an ao aj = some r) :
  Calls Try.prog 12 #[.agg #[.int .i64 D, .int .i64 G, .int .u64 U, .int .i64 O, .int .i64 T, .slice Y I.length Z], .agg #[.int .i64 ab, .int .i64 s, .int .u64 af, .int .i64 an, .int .i64 ao, .slice aW aj.length aT]] w fun e w' => e = .returned (.bool r) ∧ Below w.heap.size w w' := by
 have bW := Try.underlying32
 have cb := Try.underlying30
 have aC := zp.mk au
 have az := zp.mk av
 clear au av
 have cl := zp.mk bK
 have ce := zp.mk cc
 clear bK cc
 have HB := zp.mk (Below.refl w.heap.size w)
 have H : (if D = ab then ((laws_eqWide.f G U s af).bind fun bs => (if bs = true then (if O = an then (if T = ao then ((laws_eqIntS.f k I aj).bind fun aU => (if aU = true then (some true) else (some false))) else (some false)) else (some false)) else (some false))) else (some false)) = some r := h
 clear h
 by_cases c3 : D = ab
 ·rw [if_pos c3] at H
  have ay : (D == ab) = true := beq_iff_eq.mpr c3
  have a4 : (D != ab) = false := bne_eq_false_iff_eq.mpr c3
  clear c3
  replace H := zs4 H
  obtain ⟨bs, ew, H⟩ := H
  replace H : (if bs = true then (if O = an then (if T = ao then ((laws_eqIntS.f k I aj).bind fun aU => (if aU = true then (some true) else (some false))) else (some false)) else (some false)) else (some false)) = some r := H
  have A4 := zp.mk ew
  clear ew
  by_cases c5 : bs = true
  ·subst c5
   have H1 : (if O = an then (if T = ao then ((laws_eqIntS.f k I aj).bind fun aU => (if aU = true then (some true) else (some false))) else (some false)) else (some false)) = some r := by rw [if_pos rfl] at H; exact H
   clear H
   have H := H1
   clear H1
   by_cases c6 : O = an
   ·rw [if_pos c6] at H
    have bI : (O == an) = true := beq_iff_eq.mpr c6
    have d4 : (O != an) = false := bne_eq_false_iff_eq.mpr c6
    clear c6
    by_cases c7 : T = ao
    ·rw [if_pos c7] at H
     have bJ : (T == ao) = true := beq_iff_eq.mpr c7
     have bM : (T != ao) = false := bne_eq_false_iff_eq.mpr c7
     clear c7
     replace H := zs4 H
     obtain ⟨aU, d5, H⟩ := H
     replace H : (if aU = true then (some true) else (some false)) = some r := H
     have A8 := zp.mk d5
     clear d5
     by_cases c9 : aU = true
     ·subst c9
      have H1 : (some true) = some r := by rw [if_pos rfl] at H; exact H
      clear H
      have H := H1
      clear H1
      obtain rfl := Option.some.inj H
      go_enter Try.func12, Try.ntmps12
      go_wp2_with (first | ((with_reducible refine zo (N := 2) rfl ?_); refine zm ?hg (N := 2) ?hd (cs := #[.int .i64 D, .int .i64 G, .int .u64 U, .int .i64 O, .int .i64 T, .slice Y I.length Z]) (t := 32) ?hr ?_; (case hd => rfl); (case hg => rfl); (case hr => first | (go_simp; done) | (go_simp; rfl)); intro l hg ga hbox hb; have A := zp.mk (hbox); have a7 := zp.mk ((zv3 (zv6 HB.out) hg)); have a9 := zp.mk ((zv3 (zv6 HB.out) hg)); replace HB := zp.mk (zj (zv6 HB.out) hb); clear hb hbox hg) | ((with_reducible refine zo (N := 3) rfl ?_); refine zm ?hg (N := 3) ?hd (cs := #[.int .i64 ab, .int .i64 s, .int .u64 af, .int .i64 an, .int .i64 ao, .slice aW aj.length aT]) (t := 32) ?hr ?_; (case hd => rfl); (case hg => rfl); (case hr => first | (go_simp; done) | (go_simp; rfl)); intro ae hg b0 hbox hb; have B := zp.mk (hbox); have bh := zp.mk ((zv3 (zv7 HB.out) hg)); have ba := zp.mk ((zv3 (zv7 HB.out) hg)); have aa := zp.mk ((by rw [hg]; exact Nat.ne_of_lt (blk_lt (g := l) (o := .cells #[.int .i64 D, .int .i64 G, .int .u64 U, .int .i64 O, .int .i64 T, .slice Y I.length Z] 32 (0, 0)) (zv8 A.out)) : l ≠ ae)); have z := zp.mk ((by rw [hg]; exact Nat.ne_of_gt (blk_lt (g := l) (o := .cells #[.int .i64 D, .int .i64 G, .int .u64 U, .int .i64 O, .int .i64 T, .slice Y I.length Z] 32 (0, 0)) (zv8 A.out)) : ae ≠ l)); replace A := zp.mk (zl (zv8 A.out) hb); replace HB := zp.mk (zj (zv7 HB.out) hb); clear hb hbox hg; have dM := aa.out; have dE := z.out; have b9 := zt0 A.out; have cm := zt1 A.out; have cX := zt2 A.out; have dm := zt3 A.out; have dn := zt4 A.out; have dv := zt5 A.out; have b2 := zd A.out 0; have bX := zd A.out 1; have dS := zd A.out 2; have cU := zd A.out 3; have du := zd A.out 4; have cV := zd A.out 5; have cd := zt0 B.out; have b6 := zt1 B.out; have dk := zt2 B.out; have dD := zt3 B.out; have dK := zt4 B.out; have dx := zt5 B.out; have b1 := zd B.out 0; have bZ := zd B.out 1; have dH := zd B.out 2; have dl := zd B.out 3; have dL := zd B.out 4; have dw := zd B.out 5) | ((with_reducible refine zn (f := 35) rfl ?_); refine goesL_ (some 14) rfl rfl Try.func35 (by kernel_rfl) rfl #[.agg #[.int .i64 G, .int .u64 U], .agg #[.int .i64 s, .int .u64 af]] rfl (by (try simp only [List.map_toArray, List.map_cons, List.map_nil]); first | done | rfl | (simp only [List.length_drop, List.length_take]; rfl)) ?_; (with_reducible refine (laws_eqWide.calls G U s af true _ A4.out).mono ?_); rintro e d3 ⟨rfl, hb⟩; refine ⟨_, rfl, ?_⟩; replace A := zp.mk (zl (zv8 A.out) hb); replace B := zp.mk (zl (zv8 B.out) hb); replace HB := zp.mk (zj (zv7 HB.out) hb); (try clear hb); (try clear hb2); (try clear hk); (try clear hi); have eI := zt0 A.out; have fG := zt1 A.out; have fc := zt2 A.out; have e0 := zt3 A.out; have iN := zt4 A.out; have e7 := zt5 A.out; have iu := zd A.out 0; have fY := zd A.out 1; have gY := zd A.out 2; have iM := zd A.out 3; have ie := zd A.out 4; have g0 := zd A.out 5; have dN := zt0 B.out; have cS := zt1 B.out; have cZ := zt2 B.out; have dz := zt3 B.out; have dC := zt4 B.out; have cT := zt5 B.out; have dB := zd B.out 0; have dJ := zd B.out 1; have dh := zd B.out 2; have dI := zd B.out 3; have dq := zd B.out 4; have dA := zd B.out 5) | ((with_reducible refine zn (f := 15) rfl ?_); refine goesL_ (some 30) rfl rfl Try.func15 (by kernel_rfl) rfl #[.slice Y I.length Z, .slice aW aj.length aT] rfl (by (try simp only [List.map_toArray, List.map_cons, List.map_nil]); first | done | rfl | (simp only [List.length_drop, List.length_take]; rfl)) ?_; (with_reducible refine (laws_eqIntS.calls k _ _ I _ _ aj true _ ?side1 ?side2 ?side3 ?side4 A8.out).mono ?_); (case side1 => repeat (first | exact (Kd.zt aC.out HB.out) | (with_reducible refine Kd.zr ?_ _) | (with_reducible refine Kd.zq ?_ _) | (with_reducible refine Kd.C_drew ?_))); (case side2 => exact az.out); (case side3 => repeat (first | exact (Kd.zt cl.out HB.out) | (with_reducible refine Kd.zr ?_ _) | (with_reducible refine Kd.zq ?_ _) | (with_reducible refine Kd.C_drew ?_))); (case side4 => exact ce.out); rintro e w' ⟨rfl, ⟨nd, rfl⟩⟩; refine ⟨_, rfl, ?_⟩))
      go_ret
      exact ⟨by first | rfl | (simp [errW_none, errW_some] <;> rfl) | (simp [*, errW_none, errW_some] <;> rfl), zv7 HB.out⟩
     ·replace c9 := Bool.eq_false_iff.mpr c9
      subst c9
      have H1 : (some false) = some r := by rw [if_neg (show ¬ (false = true) by decide)] at H; exact H
      clear H
      have H := H1
      clear H1
      obtain rfl := Option.some.inj H
      go_enter Try.func12, Try.ntmps12
      go_wp2_with (first | ((with_reducible refine zo (N := 2) rfl ?_); refine zm ?hg (N := 2) ?hd (cs := #[.int .i64 D, .int .i64 G, .int .u64 U, .int .i64 O, .int .i64 T, .slice Y I.length Z]) (t := 32) ?hr ?_; (case hd => rfl); (case hg => rfl); (case hr => first | (go_simp; done) | (go_simp; rfl)); intro l hg jU hbox hb; have A := zp.mk (hbox); have a7 := zp.mk ((zv3 (zv6 HB.out) hg)); have a9 := zp.mk ((zv3 (zv6 HB.out) hg)); replace HB := zp.mk (zj (zv6 HB.out) hb); clear hb hbox hg) | ((with_reducible refine zo (N := 3) rfl ?_); refine zm ?hg (N := 3) ?hd (cs := #[.int .i64 ab, .int .i64 s, .int .u64 af, .int .i64 an, .int .i64 ao, .slice aW aj.length aT]) (t := 32) ?hr ?_; (case hd => rfl); (case hg => rfl); (case hr => first | (go_simp; done) | (go_simp; rfl)); intro ae hg kc hbox hb; have B := zp.mk (hbox); have bh := zp.mk ((zv3 (zv7 HB.out) hg)); have ba := zp.mk ((zv3 (zv7 HB.out) hg)); have aa := zp.mk ((by rw [hg]; exact Nat.ne_of_lt (blk_lt (g := l) (o := .cells #[.int .i64 D, .int .i64 G, .int .u64 U, .int .i64 O, .int .i64 T, .slice Y I.length Z] 32 (0, 0)) (zv8 A.out)) : l ≠ ae)); have z := zp.mk ((by rw [hg]; exact Nat.ne_of_gt (blk_lt (g := l) (o := .cells #[.int .i64 D, .int .i64 G, .int .u64 U, .int .i64 O, .int .i64 T, .slice Y I.length Z] 32 (0, 0)) (zv8 A.out)) : ae ≠ l)); replace A := zp.mk (zl (zv8 A.out) hb); replace HB := zp.mk (zj (zv7 HB.out) hb); clear hb hbox hg; have fM := aa.out; have iO := z.out; have fy := zt0 A.out; have iF := zt1 A.out; have gU := zt2 A.out; have iD := zt3 A.out; have ff := zt4 A.out; have hc := zt5 A.out; have ip := zd A.out 0; have eE := zd A.out 1; have gL := zd A.out 2; have e1 := zd A.out 3; have fJ := zd A.out 4; have ih := zd A.out 5; have fh := zt0 B.out; have eQ := zt1 B.out; have gf := zt2 B.out; have fW := zt3 B.out; have fg := zt4 B.out; have jj := zt5 B.out; have hu := zd B.out 0; have jg := zd B.out 1; have h9 := zd B.out 2; have jc := zd B.out 3; have h7 := zd B.out 4; have ix := zd B.out 5) | ((with_reducible refine zn (f := 35) rfl ?_); refine goesL_ (some 14) rfl rfl Try.func35 (by kernel_rfl) rfl #[.agg #[.int .i64 G, .int .u64 U], .agg #[.int .i64 s, .int .u64 af]] rfl (by (try simp only [List.map_toArray, List.map_cons, List.map_nil]); first | done | rfl | (simp only [List.length_drop, List.length_take]; rfl)) ?_; (with_reducible refine (laws_eqWide.calls G U s af true _ A4.out).mono ?_); rintro e ka ⟨rfl, hb⟩; refine ⟨_, rfl, ?_⟩; replace A := zp.mk (zl (zv8 A.out) hb); replace B := zp.mk (zl (zv8 B.out) hb); replace HB := zp.mk (zj (zv7 HB.out) hb); (try clear hb); (try clear hb2); (try clear hk); (try clear hi); have hM := zt0 A.out; have eV := zt1 A.out; have fA := zt2 A.out; have eL := zt3 A.out; have ib := zt4 A.out; have gu := zt5 A.out; have hN := zd A.out 0; have eN := zd A.out 1; have iP := zd A.out 2; have jw := zd A.out 3; have gG := zd A.out 4; have ir := zd A.out 5; have gM := zt0 B.out; have eY := zt1 B.out; have fU := zt2 B.out; have gD := zt3 B.out; have fZ := zt4 B.out; have il := zt5 B.out; have gH := zd B.out 0; have iG := zd B.out 1; have hj := zd B.out 2; have eW := zd B.out 3; have gg := zd B.out 4; have gr := zd B.out 5) | ((with_reducible refine zn (f := 15) rfl ?_); refine goesL_ (some 30) rfl rfl Try.func15 (by kernel_rfl) rfl #[.slice Y I.length Z, .slice aW aj.length aT] rfl (by (try simp only [List.map_toArray, List.map_cons, List.map_nil]); first | done | rfl | (simp only [List.length_drop, List.length_take]; rfl)) ?_; (with_reducible refine (laws_eqIntS.calls k _ _ I _ _ aj false _ ?side1 ?side2 ?side3 ?side4 A8.out).mono ?_); (case side1 => repeat (first | exact (Kd.zt aC.out HB.out) | (with_reducible refine Kd.zr ?_ _) | (with_reducible refine Kd.zq ?_ _) | (with_reducible refine Kd.C_drew ?_))); (case side2 => exact az.out); (case side3 => repeat (first | exact (Kd.zt cl.out HB.out) | (with_reducible refine Kd.zr ?_ _) | (with_reducible refine Kd.zq ?_ _) | (with_reducible refine Kd.C_drew ?_))); (case side4 => exact ce.out); rintro e w' ⟨rfl, ⟨nd, rfl⟩⟩; refine ⟨_, rfl, ?_⟩))
      go_ret
      exact ⟨by first | rfl | (simp [errW_none, errW_some] <;> rfl) | (simp [*, errW_none, errW_some] <;> rfl), zv7 HB.out⟩
    ·rw [if_neg c7] at H
     have bJ : (T == ao) = false := beq_eq_false_iff_ne.mpr c7
     have bM : (T != ao) = true := bne_iff_ne.mpr c7
     obtain rfl := Option.some.inj H
     go_enter Try.func12, Try.ntmps12
     go_wp2_with (first | ((with_reducible refine zo (N := 2) rfl ?_); refine zm ?hg (N := 2) ?hd (cs := #[.int .i64 D, .int .i64 G, .int .u64 U, .int .i64 O, .int .i64 T, .slice Y I.length Z]) (t := 32) ?hr ?_; (case hd => rfl); (case hg => rfl); (case hr => first | (go_simp; done) | (go_simp; rfl)); intro l hg jP hbox hb; have A := zp.mk (hbox); have a7 := zp.mk ((zv3 (zv6 HB.out) hg)); have a9 := zp.mk ((zv3 (zv6 HB.out) hg)); replace HB := zp.mk (zj (zv6 HB.out) hb); clear hb hbox hg) | ((with_reducible refine zo (N := 3) rfl ?_); refine zm ?hg (N := 3) ?hd (cs := #[.int .i64 ab, .int .i64 s, .int .u64 af, .int .i64 an, .int .i64 ao, .slice aW aj.length aT]) (t := 32) ?hr ?_; (case hd => rfl); (case hg => rfl); (case hr => first | (go_simp; done) | (go_simp; rfl)); intro ae hg j4 hbox hb; have B := zp.mk (hbox); have bh := zp.mk ((zv3 (zv7 HB.out) hg)); have ba := zp.mk ((zv3 (zv7 HB.out) hg)); have aa := zp.mk ((by rw [hg]; exact Nat.ne_of_lt (blk_lt (g := l) (o := .cells #[.int .i64 D, .int .i64 G, .int .u64 U, .int .i64 O, .int .i64 T, .slice Y I.length Z] 32 (0, 0)) (zv8 A.out)) : l ≠ ae)); have z := zp.mk ((by rw [hg]; exact Nat.ne_of_gt (blk_lt (g := l) (o := .cells #[.int .i64 D, .int .i64 G, .int .u64 U, .int .i64 O, .int .i64 T, .slice Y I.length Z] 32 (0, 0)) (zv8 A.out)) : ae ≠ l)); replace A := zp.mk (zl (zv8 A.out) hb); replace HB := zp.mk (zj (zv7 HB.out) hb); clear hb hbox hg; have gy := aa.out; have jh := z.out; have fQ := zt0 A.out; have jn := zt1 A.out; have fO := zt2 A.out; have je := zt3 A.out; have g3 := zt4 A.out; have i1 := zt5 A.out; have i9 := zd A.out 0; have g8 := zd A.out 1; have ia := zd A.out 2; have e3 := zd A.out 3; have fw := zd A.out 4; have fz := zd A.out 5; have eO := zt0 B.out; have g4 := zt1 B.out; have gX := zt2 B.out; have hh := zt3 B.out; have iI := zt4 B.out; have gI := zt5 B.out; have eZ := zd B.out 0; have jb := zd B.out 1; have ht := zd B.out 2; have iB := zd B.out 3; have e8 := zd B.out 4; have iY := zd B.out 5) | ((with_reducible refine zn (f := 35) rfl ?_); refine goesL_ (some 14) rfl rfl Try.func35 (by kernel_rfl) rfl #[.agg #[.int .i64 G, .int .u64 U], .agg #[.int .i64 s, .int .u64 af]] rfl (by (try simp only [List.map_toArray, List.map_cons, List.map_nil]); first | done | rfl | (simp only [List.length_drop, List.length_take]; rfl)) ?_; (with_reducible refine (laws_eqWide.calls G U s af true _ A4.out).mono ?_); rintro e jT ⟨rfl, hb⟩; refine ⟨_, rfl, ?_⟩; replace A := zp.mk (zl (zv8 A.out) hb); replace B := zp.mk (zl (zv8 B.out) hb); replace HB := zp.mk (zj (zv7 HB.out) hb); (try clear hb); (try clear hb2); (try clear hk); (try clear hi); have fj := zt0 A.out; have g2 := zt1 A.out; have fp := zt2 A.out; have hE := zt3 A.out; have gi := zt4 A.out; have iy := zt5 A.out; have iJ := zd A.out 0; have hU := zd A.out 1; have hf := zd A.out 2; have gh := zd A.out 3; have fu := zd A.out 4; have hV := zd A.out 5; have i4 := zt0 B.out; have eJ := zt1 B.out; have ic := zt2 B.out; have fH := zt3 B.out; have fD := zt4 B.out; have hS := zt5 B.out; have gz := zd B.out 0; have iR := zd B.out 1; have i8 := zd B.out 2; have jm := zd B.out 3; have hm := zd B.out 4; have hz := zd B.out 5))
     go_ret
     exact ⟨by first | rfl | (simp [errW_none, errW_some] <;> rfl) | (simp [*, errW_none, errW_some] <;> rfl), zv7 HB.out⟩
   ·rw [if_neg c6] at H
    have bI : (O == an) = false := beq_eq_false_iff_ne.mpr c6
    have d4 : (O != an) = true := bne_iff_ne.mpr c6
    obtain rfl := Option.some.inj H
    go_enter Try.func12, Try.ntmps12
    go_wp2_with (first | ((with_reducible refine zo (N := 2) rfl ?_); refine zm ?hg (N := 2) ?hd (cs := #[.int .i64 D, .int .i64 G, .int .u64 U, .int .i64 O, .int .i64 T, .slice Y I.length Z]) (t := 32) ?hr ?_; (case hd => rfl); (case hg => rfl); (case hr => first | (go_simp; done) | (go_simp; rfl)); intro l hg kf hbox hb; have A := zp.mk (hbox); have a7 := zp.mk ((zv3 (zv6 HB.out) hg)); have a9 := zp.mk ((zv3 (zv6 HB.out) hg)); replace HB := zp.mk (zj (zv6 HB.out) hb); clear hb hbox hg) | ((with_reducible refine zo (N := 3) rfl ?_); refine zm ?hg (N := 3) ?hd (cs := #[.int .i64 ab, .int .i64 s, .int .u64 af, .int .i64 an, .int .i64 ao, .slice aW aj.length aT]) (t := 32) ?hr ?_; (case hd => rfl); (case hg => rfl); (case hr => first | (go_simp; done) | (go_simp; rfl)); intro ae hg j9 hbox hb; have B := zp.mk (hbox); have bh := zp.mk ((zv3 (zv7 HB.out) hg)); have ba := zp.mk ((zv3 (zv7 HB.out) hg)); have aa := zp.mk ((by rw [hg]; exact Nat.ne_of_lt (blk_lt (g := l) (o := .cells #[.int .i64 D, .int .i64 G, .int .u64 U, .int .i64 O, .int .i64 T, .slice Y I.length Z] 32 (0, 0)) (zv8 A.out)) : l ≠ ae)); have z := zp.mk ((by rw [hg]; exact Nat.ne_of_gt (blk_lt (g := l) (o := .cells #[.int .i64 D, .int .i64 G, .int .u64 U, .int .i64 O, .int .i64 T, .slice Y I.length Z] 32 (0, 0)) (zv8 A.out)) : ae ≠ l)); replace A := zp.mk (zl (zv8 A.out) hb); replace HB := zp.mk (zj (zv7 HB.out) hb); clear hb hbox hg; have hX := aa.out; have fv := z.out; have fV := zt0 A.out; have jl := zt1 A.out; have iz := zt2 A.out; have fL := zt3 A.out; have hJ := zt4 A.out; have g1 := zt5 A.out; have fX := zd A.out 0; have jo := zd A.out 1; have hy := zd A.out 2; have fK := zd A.out 3; have gA := zd A.out 4; have iE := zd A.out 5; have gS := zt0 B.out; have fF := zt1 B.out; have eA := zt2 B.out; have iv := zt3 B.out; have hl := zt4 B.out; have g5 := zt5 B.out; have jf := zd B.out 0; have i0 := zd B.out 1; have fC := zd B.out 2; have h0 := zd B.out 3; have eD := zd B.out 4; have io := zd B.out 5) | ((with_reducible refine zn (f := 35) rfl ?_); refine goesL_ (some 14) rfl rfl Try.func35 (by kernel_rfl) rfl #[.agg #[.int .i64 G, .int .u64 U], .agg #[.int .i64 s, .int .u64 af]] rfl (by (try simp only [List.map_toArray, List.map_cons, List.map_nil]); first | done | rfl | (simp only [List.length_drop, List.length_take]; rfl)) ?_; (with_reducible refine (laws_eqWide.calls G U s af true _ A4.out).mono ?_); rintro e jQ ⟨rfl, hb⟩; refine ⟨_, rfl, ?_⟩; replace A := zp.mk (zl (zv8 A.out) hb); replace B := zp.mk (zl (zv8 B.out) hb); replace HB := zp.mk (zj (zv7 HB.out) hb); (try clear hb); (try clear hb2); (try clear hk); (try clear hi); have js := zt0 A.out; have gv := zt1 A.out; have gj := zt2 A.out; have gZ := zt3 A.out; have gF := zt4 A.out; have iA := zt5 A.out; have i5 := zd A.out 0; have hW := zd A.out 1; have ju := zd A.out 2; have e4 := zd A.out 3; have jk := zd A.out 4; have jp := zd A.out 5; have h3 := zt0 B.out; have jd := zt1 B.out; have hQ := zt2 B.out; have gT := zt3 B.out; have fs := zt4 B.out; have gE := zt5 B.out; have iQ := zd B.out 0; have fR := zd B.out 1; have fa := zd B.out 2; have gO := zd B.out 3; have h4 := zd B.out 4; have iX := zd B.out 5))
    go_ret
    exact ⟨by first | rfl | (simp [errW_none, errW_some] <;> rfl) | (simp [*, errW_none, errW_some] <;> rfl), zv7 HB.out⟩
  ·replace c5 := Bool.eq_false_iff.mpr c5
   subst c5
   have H1 : (some false) = some r := by rw [if_neg (show ¬ (false = true) by decide)] at H; exact H
   clear H
   have H := H1
   clear H1
   obtain rfl := Option.some.inj H
   go_enter Try.func12, Try.ntmps12
   go_wp2_with (first | ((with_reducible refine zo (N := 2) rfl ?_); refine zm ?hg (N := 2) ?hd (cs := #[.int .i64 D, .int .i64 G, .int .u64 U, .int .i64 O, .int .i64 T, .slice Y I.length Z]) (t := 32) ?hr ?_; (case hd => rfl); (case hg => rfl); (case hr => first | (go_simp; done) | (go_simp; rfl)); intro l hg kb hbox hb; have A := zp.mk (hbox); have a7 := zp.mk ((zv3 (zv6 HB.out) hg)); have a9 := zp.mk ((zv3 (zv6 HB.out) hg)); replace HB := zp.mk (zj (zv6 HB.out) hb); clear hb hbox hg) | ((with_reducible refine zo (N := 3) rfl ?_); refine zm ?hg (N := 3) ?hd (cs := #[.int .i64 ab, .int .i64 s, .int .u64 af, .int .i64 an, .int .i64 ao, .slice aW aj.length aT]) (t := 32) ?hr ?_; (case hd => rfl); (case hg => rfl); (case hr => first | (go_simp; done) | (go_simp; rfl)); intro ae hg j6 hbox hb; have B := zp.mk (hbox); have bh := zp.mk ((zv3 (zv7 HB.out) hg)); have ba := zp.mk ((zv3 (zv7 HB.out) hg)); have aa := zp.mk ((by rw [hg]; exact Nat.ne_of_lt (blk_lt (g := l) (o := .cells #[.int .i64 D, .int .i64 G, .int .u64 U, .int .i64 O, .int .i64 T, .slice Y I.length Z] 32 (0, 0)) (zv8 A.out)) : l ≠ ae)); have z := zp.mk ((by rw [hg]; exact Nat.ne_of_gt (blk_lt (g := l) (o := .cells #[.int .i64 D, .int .i64 G, .int .u64 U, .int .i64 O, .int .i64 T, .slice Y I.length Z] 32 (0, 0)) (zv8 A.out)) : ae ≠ l)); replace A := zp.mk (zl (zv8 A.out) hb); replace HB := zp.mk (zj (zv7 HB.out) hb); clear hb hbox hg; have h6 := aa.out; have fB := z.out; have fd := zt0 A.out; have eU := zt1 A.out; have fE := zt2 A.out; have iq := zt3 A.out; have eR := zt4 A.out; have hD := zt5 A.out; have iw := zd A.out 0; have hO := zd A.out 1; have hF := zd A.out 2; have eF := zd A.out 3; have iL := zd A.out 4; have jq := zd A.out 5; have hH := zt0 B.out; have iZ := zt1 B.out; have i6 := zt2 B.out; have eT := zt3 B.out; have fT := zt4 B.out; have eB := zt5 B.out; have ig := zd B.out 0; have fm := zd B.out 1; have hY := zd B.out 2; have ha := zd B.out 3; have i3 := zd B.out 4; have hT := zd B.out 5) | ((with_reducible refine zn (f := 35) rfl ?_); refine goesL_ (some 14) rfl rfl Try.func35 (by kernel_rfl) rfl #[.agg #[.int .i64 G, .int .u64 U], .agg #[.int .i64 s, .int .u64 af]] rfl (by (try simp only [List.map_toArray, List.map_cons, List.map_nil]); first | done | rfl | (simp only [List.length_drop, List.length_take]; rfl)) ?_; (with_reducible refine (laws_eqWide.calls G U s af false _ A4.out).mono ?_); rintro e jR ⟨rfl, hb⟩; refine ⟨_, rfl, ?_⟩; replace A := zp.mk (zl (zv8 A.out) hb); replace B := zp.mk (zl (zv8 B.out) hb); replace HB := zp.mk (zj (zv7 HB.out) hb); (try clear hb); (try clear hb2); (try clear hk); (try clear hi)))
   go_ret
   exact ⟨by first | rfl | (simp [errW_none, errW_some] <;> rfl) | (simp [*, errW_none, errW_some] <;> rfl), zv7 HB.out⟩
 ·rw [if_neg c3] at H
  have ay : (D == ab) = false := beq_eq_false_iff_ne.mpr c3
  have a4 : (D != ab) = true := bne_iff_ne.mpr c3
  obtain rfl := Option.some.inj H
  go_enter Try.func12, Try.ntmps12
  go_wp2_with (first | ((with_reducible refine zo (N := 2) rfl ?_); refine zm ?hg (N := 2) ?hd (cs := #[.int .i64 D, .int .i64 G, .int .u64 U, .int .i64 O, .int .i64 T, .slice Y I.length Z]) (t := 32) ?hr ?_; (case hd => rfl); (case hg => rfl); (case hr => first | (go_simp; done) | (go_simp; rfl)); intro l hg jZ hbox hb; have A := zp.mk (hbox); have a7 := zp.mk ((zv3 (zv6 HB.out) hg)); have a9 := zp.mk ((zv3 (zv6 HB.out) hg)); replace HB := zp.mk (zj (zv6 HB.out) hb); clear hb hbox hg) | ((with_reducible refine zo (N := 3) rfl ?_); refine zm ?hg (N := 3) ?hd (cs := #[.int .i64 ab, .int .i64 s, .int .u64 af, .int .i64 an, .int .i64 ao, .slice aW aj.length aT]) (t := 32) ?hr ?_; (case hd => rfl); (case hg => rfl); (case hr => first | (go_simp; done) | (go_simp; rfl)); intro ae hg jS hbox hb; have B := zp.mk (hbox); have bh := zp.mk ((zv3 (zv7 HB.out) hg)); have ba := zp.mk ((zv3 (zv7 HB.out) hg)); have aa := zp.mk ((by rw [hg]; exact Nat.ne_of_lt (blk_lt (g := l) (o := .cells #[.int .i64 D, .int .i64 G, .int .u64 U, .int .i64 O, .int .i64 T, .slice Y I.length Z] 32 (0, 0)) (zv8 A.out)) : l ≠ ae)); have z := zp.mk ((by rw [hg]; exact Nat.ne_of_gt (blk_lt (g := l) (o := .cells #[.int .i64 D, .int .i64 G, .int .u64 U, .int .i64 O, .int .i64 T, .slice Y I.length Z] 32 (0, 0)) (zv8 A.out)) : ae ≠ l)); replace A := zp.mk (zl (zv8 A.out) hb); replace HB := zp.mk (zj (zv7 HB.out) hb); clear hb hbox hg; have fx := aa.out; have gq := z.out; have fi := zt0 A.out; have hx := zt1 A.out; have eX := zt2 A.out; have gN := zt3 A.out; have gn := zt4 A.out; have h2 := zt5 A.out; have eK := zd A.out 0; have ij := zd A.out 1; have e9 := zd A.out 2; have fP := zd A.out 3; have gR := zd A.out 4; have gl := zd A.out 5; have gC := zt0 B.out; have iS := zt1 B.out; have fk := zt2 B.out; have iH := zt3 B.out; have g7 := zt4 B.out; have hK := zt5 B.out; have eG := zd B.out 0; have h8 := zd B.out 1; have e5 := zd B.out 2; have ii := zd B.out 3; have hq := zd B.out 4; have hA := zd B.out 5))
  go_ret
  exact ⟨by first | rfl | (simp [errW_none, errW_some] <;> rfl) | (simp [*, errW_none, errW_some] <;> rfl), zv7 HB.out⟩

/-! ### laws_markIntS: function 17 -/
def laws_markIntS.l0 : Nat → List Int → Int → Int → Option (Int × List Int)
 | 0, _, _, _ => none
 | k + 1, x0, x1, x5 => if x5 < (x0.length : Int) then (if 0 ≤ x5 then (laws_markIntS.l0 k (x0.set (x5 : Int).toNat x1) (wrap64 (x1 + 1)) (wrap64 (x5 + 1))) else (none)) else (some (x1, x0))
def laws_markIntS.f (k : Nat) (l0 : List Int) (a1 : Int) : Option (Int × List Int) := laws_markIntS.l0 k l0 a1 0
set_option maxHeartbeats 8000000 in
set_option maxRecDepth 100000 in
theorem laws_markIntS.calls (k : Nat) (br : Nat → Prop) (aq : Value) (l0 : List Int) (a1 : Int) (r1 : Int) (r2 : List Int) (w0 w : World) (hB : Below w0.heap.size w0 w) (cn : Kd.R (Kd.int .i64) 3 w w0.heap.size br aq l0) (h : laws_markIntS.f k l0 a1 = some (r1, r2)) :
  Calls Try.prog 17 #[aq, .int .i64 a1] w fun e w' => e = .returned (.int .i64 r1) ∧ Kd.R (Kd.int .i64) 3 w' w0.heap.size (fun k_ => (br k_ ∨ w.heap.size ≤ k_)) aq r2 ∧ Below w0.heap.size w0 w' ∧ Kept w w' (fun k_ => br k_) := by
 have fl := zp.mk (show Kd.R (Kd.int .i64) 3 w w0.heap.size (fun k_ => (br k_ ∨ w.heap.size ≤ k_)) aq l0 from Kd.R_mono cn (fun k_ hk => (.inl hk)))
 have HK := zp.mk (Kept.refl w (fun k_ => br k_))
 have ik := zp.mk hB.size
 have HB := zp.mk hB
 clear hB
 have H : (laws_markIntS.l0 k l0 a1 0) = some (r1, r2) := h
 clear h
 have H' := zp.mk H
 clear H
 go_enter Try.func17, Try.ntmps17
 go_wp2
 go_loopg [1, 5] k (fun kq v1 v5 w' => ∃ (a3 : List Int) (am : Int) (J : Int), v1 = .int .i64 am ∧ v5 = .int .i64 J ∧ zp (laws_markIntS.l0 kq a3 am J = some (r1, r2)) ∧ zp (kq ≤ k) ∧ zp (Kd.R (Kd.int .i64) 3 w' w0.heap.size (fun k_ => (br k_ ∨ w.heap.size ≤ k_)) aq a3) ∧ zp (Kept w w' (fun k_ => br k_)) ∧ zp (Below w0.heap.size w0 w'))
 case atStart => exact ⟨(l0), (a1), (0), (by first | rfl | (simp; done) | (simp [*]; done)), (by first | rfl | (simp; done) | (simp [*]; done)), H', ⟨Nat.le_refl _⟩, ⟨by (with_reducible repeat (first | apply Kd.R_alloc | apply Kd.R_drewN | apply Kd.R_drew)); exact fl.out⟩, ⟨by repeat (first | (with_reducible first | exact HK.out | apply Kept.alloc | apply Kept.drewN | apply Kept.drew) | exact HK.out)⟩, ⟨zv6 HB.out⟩⟩
 case round =>
  clear H'
  try clear c1
  try clear p2
  obtain ⟨a3, am, J, rfl, rfl, HA, bg, aV, HK, HB⟩ := hrel
  cases gk with
  | zero => exact absurd HA.out (by simp [laws_markIntS.l0])
  | succ k1 =>
   have H := HA.out
   clear HA
   simp only [laws_markIntS.l0] at H
   by_cases c3 : J < (a3.length : Int)
   ·rw [if_pos c3] at H
    have ay : decide (J < (a3.length : Int)) = true := decide_eq_true c3
    clear c3
    by_cases c4 : 0 ≤ J
    ·rw [if_pos c4] at H
     have a2 : decide (0 ≤ J) = true := decide_eq_true c4
     clear c4
     obtain ⟨bO, bp⟩ : ∃ y_ : List Int, y_ = (a3.set (J : Int).toNat am) := ⟨_, rfl⟩
     replace H : (laws_markIntS.l0 k1 bO (wrap64 (am + 1)) (wrap64 (J + 1))) = some (r1, r2) := by first | (rw [bp]; with_reducible exact H) | (have bm := (Option.bind_some _ _).symm.trans H; rw [bp]; with_reducible exact bm) | (have bm := (Option.bind_some _ _).symm.trans H; with_reducible exact bm) | with_reducible exact H | (rw [bp]; exact H) | exact H
     have db := zp.mk bp
     clear bp
     have H' := zp.mk H
     clear H
     obtain ⟨ke, gJ, gP⟩ := Kd.R_slice aV.out
     subst gP
     have p5 : 0 ≤ (J : Int) := of_decide_eq_true (by first | (with_reducible assumption) | assumption)
     have q5 : (J : Int) < ((a3.length : Int) : Int) := of_decide_eq_true (by first | (with_reducible assumption) | assumption)
     obtain ⟨bQ, jX, eu, ek, eP, jW, eb⟩ := Kd.R_form aV.out (by omega)
     (first | cases eu | (injection eu with ea_ en_ ec_; (first | subst ea_ | (injection ea_ with ea_; subst ea_)); subst ec_; clear en_))
     have eM := zp.mk ek
     have jV := zp.mk eb
     clear ek eP eb
     have iV := zp.mk (show (br bQ ∨ w.heap.size ≤ bQ) from (aV.out.1 _ rfl))
     obtain ⟨fq, g9⟩ := Kd.R_celln 0 aV.out (J : Int) p5 q5
     replace p5 := eq_true p5
     replace q5 := eq_true q5
     have dp := Kd.R_putg aV.out (J : Int) am
     go_wp2_with (first | ((with_reducible refine gate_store (t := 3) (p := 15) rfl ?_); refine store_event (t := 3) (p := 15) (v := ?vo_w8) (w1 := (wr.setCell ⟨bQ, (J : Int).toNat, none⟩ (.int .i64 am))) ?hg ?ho ?hn ?hr ?_; (case ho => rfl); (case hg => rfl); (case hn => rfl); (case hr => first | (go_simp; done) | (go_simp; rfl)); intro w8 hw; have hg : wr.grownBy w8 (some bQ) := (by rw [hw]; exact dp.2); have hp_ : Kd.R (Kd.int .i64) 3 w8 w0.heap.size (fun k_ => (br k_ ∨ w.heap.size ≤ k_)) (.slice (some ⟨bQ, 0, none⟩) a3.length gJ) bO := (by rw [hw, db.out]; exact dp.1); clear dp; replace HB := zp.mk ((by rw [hw]; exact zh (HB.out) eM.out : Below w0.heap.size w0 w8)); replace HK := zp.mk (Kept.of_grown (S := (fun k_ => br k_)) hg (by repeat (first | (with_reducible first | exact HK.out | apply Kept.alloc | apply Kept.drewN | apply Kept.drew) | exact HK.out)) (fun k_ e_ => (aV.out.1 k_ e_))); replace aV := zp.mk (hp_); clear hg hw hp_))
     go_roundg k1
     case measure => have := bg.out; omega
     case rel => exact ⟨(bO), (wrap64 (am + 1)), (wrap64 (J + 1)), (by first | rfl | (simp; done) | (simp [*]; done)), (by first | rfl | (simp; done) | (simp [*]; done)), H', ⟨by have := bg.out; omega⟩, ⟨by (with_reducible repeat (first | apply Kd.R_alloc | apply Kd.R_drewN | apply Kd.R_drew)); exact aV.out⟩, ⟨by repeat (first | (with_reducible first | exact HK.out | apply Kept.alloc | apply Kept.drewN | apply Kept.drew) | exact HK.out)⟩, ⟨zv6 HB.out⟩⟩
    ·rw [if_neg c4] at H
     exact absurd H (by simp)
   ·rw [if_neg c3] at H
    have ay : decide (J < (a3.length : Int)) = false := decide_eq_false c3
    clear c3
    simp only [Option.some.injEq, Prod.mk.injEq] at H
    obtain ⟨rfl, rfl⟩ := H
    obtain ⟨jY, dZ, cq⟩ := Kd.R_slice aV.out
    subst cq
    go_wp2
    go_ret
    exact ⟨by first | rfl | (simp [errW_none, errW_some] <;> rfl) | (simp [*, errW_none, errW_some] <;> rfl), by (with_reducible repeat (first | apply Kd.R_alloc | apply Kd.R_drewN | apply Kd.R_drew)); exact aV.out, zv6 HB.out, by repeat (first | (with_reducible first | exact HK.out | apply Kept.alloc | apply Kept.drewN | apply Kept.drew) | exact HK.out)⟩

/-! ### laws_markAgg: function 16 -/
def laws_markAgg.f (k : Nat) (D : Int) (G : Int) (U : Int) (O : Int) (T : Int) (I : List Int) (a1 : Int) : Option (Int × List Int) := (laws_markIntS.f k I a1).bind fun be => (some (be.1, be.2))
set_option maxHeartbeats 8000000 in
set_option maxRecDepth 100000 in
theorem laws_markAgg.calls (k : Nat) (D : Int) (G : Int) (U : Int) (O : Int) (T : Int) (aM : Nat → Prop) (aq : Value) (I : List Int) (a1 : Int) (r1 : Int) (r2 : List Int) (w0 w : World) (hB : Below w0.heap.size w0 w) (dF : Kd.R (Kd.int .i64) 3 w w0.heap.size aM aq I) (h : laws_markAgg.f k D G U O T I a1 = some (r1, r2)) :
  Calls Try.prog 16 #[.agg #[.int .i64 D, .int .i64 G, .int .u64 U, .int .i64 O, .int .i64 T, aq], .int .i64 a1] w fun e w' => e = .returned (.int .i64 r1) ∧ Kd.R (Kd.int .i64) 3 w' w0.heap.size (fun k_ => (aM k_ ∨ w.heap.size ≤ k_)) aq r2 ∧ Below w0.heap.size w0 w' ∧ Kept w w' (fun k_ => aM k_) := by
 have bW := Try.underlying32
 have aI := zp.mk (show Kd.R (Kd.int .i64) 3 w w0.heap.size (fun k_ => (aM k_ ∨ w.heap.size ≤ k_)) aq I from Kd.R_mono dF (fun k_ hk => (.inl hk)))
 have HK := zp.mk (Kept.refl w (fun k_ => aM k_))
 have ik := zp.mk hB.size
 have HB := zp.mk hB
 clear hB
 have H : ((laws_markIntS.f k I a1).bind fun be => (some (be.1, be.2))) = some (r1, r2) := h
 clear h
 replace H := zs4 H
 obtain ⟨⟨cI, cN⟩, bo, H⟩ := H
 replace H : (some (cI, cN)) = some (r1, r2) := H
 have A3 := zp.mk bo
 clear bo
 simp only [Option.some.injEq, Prod.mk.injEq] at H
 obtain ⟨rfl, rfl⟩ := H
 obtain ⟨cp, co, hv⟩ := Kd.R_slice aI.out
 subst hv
 go_enter Try.func16, Try.ntmps16
 go_wp2_with (first | ((with_reducible refine zo (N := 2) rfl ?_); refine zm ?hg (N := 2) ?hd (cs := #[.int .i64 D, .int .i64 G, .int .u64 U, .int .i64 O, .int .i64 T, .slice cp I.length co]) (t := 32) ?hr ?_; (case hd => rfl); (case hg => rfl); (case hr => first | (go_simp; done) | (go_simp; rfl)); intro bR hg w5 hbox hb; have ah := zp.mk (hbox); have b3 := zp.mk ((by rw [hg]; exact (by first | exact HK.out.1 | exact (show Kept w _ (fun k_ => aM k_) from by repeat (first | (with_reducible first | exact HK.out | apply Kept.alloc | apply Kept.drewN | apply Kept.drew) | exact HK.out)).1) : w.heap.size ≤ bR)); have dQ := zp.mk ((by rw [hg]; exact (zk (zv6 HB.out)) : w0.heap.size ≤ bR)); replace aI := zp.mk (Kd.R_below (by (with_reducible repeat (first | apply Kd.R_alloc | apply Kd.R_drewN | apply Kd.R_drew)); exact aI.out) hb); replace HK := zp.mk (Kept.below (S := (fun k_ => aM k_)) (by repeat (first | (with_reducible first | exact HK.out | apply Kept.alloc | apply Kept.drewN | apply Kept.drew) | exact HK.out)) hb); replace HB := zp.mk (zj (zv6 HB.out) hb); clear hb hbox hg; have cG := zt0 ah.out; have cH := zt1 ah.out; have cK := zt2 ah.out; have cx := zt3 ah.out; have cR := zt4 ah.out; have cM := zt5 ah.out; have cu := zd ah.out 0; have cO := zd ah.out 1; have cD := zd ah.out 2; have cF := zd ah.out 3; have cE := zd ah.out 4; have cP := zd ah.out 5) | ((with_reducible refine zn (f := 17) rfl ?_); refine goesL_ (some 8) rfl rfl Try.func17 (by kernel_rfl) rfl #[.slice cp I.length co, .int .i64 a1] rfl (by (try simp only [List.map_toArray, List.map_cons, List.map_nil]); first | done | rfl | (simp only [List.length_drop, List.length_take]; rfl)) ?_; (with_reducible refine (laws_markIntS.calls k (fun k_ => some k_ = (.slice cp I.length co : Value).ownBlock) (.slice cp I.length co) I a1 cI cN w0 _ ?side1 ?side2 A3.out).mono ?_); (case side1 => repeat (first | (with_reducible first | exact HB.out | apply zc | apply za | apply zb | refine zh ?_ dQ.out) | exact HB.out)); (case side2 => exact Kd.R_tight rfl aI.out); rintro e w7 ⟨rfl, d6, hb, hkp⟩; refine ⟨_, rfl, ?_⟩; replace ah := zp.mk (blk_kept (zv8 ah.out) hkp (fun hs_ => (fun e_ => (Kd.R_ne aI.out ah.out (by decide)) e_) hs_)); replace HK := zp.mk (Kept.then_ (S := (fun k_ => aM k_)) (by repeat (first | (with_reducible first | exact HK.out | apply Kept.alloc | apply Kept.drewN | apply Kept.drew | refine Kept.setCell ?_ (.inr b3.out) _) | exact HK.out)) hkp (fun k_ hs_ => (fun e_ => (aI.out.1 k_ e_.symm)) hs_)); replace aI := zp.mk (Kd.R_reok rfl d6 (fun k_ e_ => aI.out.1 k_ e_)); replace HB := zp.mk (hb); (try clear hb); (try clear hkp); (try clear d6)))
 go_ret
 exact ⟨by first | rfl | (simp [errW_none, errW_some] <;> rfl) | (simp [*, errW_none, errW_some] <;> rfl), by (with_reducible repeat (first | apply Kd.R_alloc | apply Kd.R_drewN | apply Kd.R_drew)); exact aI.out, zv7 HB.out, by repeat (first | (with_reducible first | exact HK.out | apply Kept.alloc | apply Kept.drewN | apply Kept.drew | refine Kept.setCell ?_ (.inr b3.out) _) | exact HK.out)⟩

/-! ### laws_heldIntS: function 18 -/
def laws_heldIntS.l0 : Nat → List Int → Int → Int → Option (Int)
 | 0, _, _, _ => none
 | k + 1, x0, x1, x5 => if x5 < (x0.length : Int) then (if 0 ≤ x5 then (if (rd x0 x5) = x1 then (laws_heldIntS.l0 k x0 (wrap64 (x1 + 1)) (wrap64 (x5 + 1))) else (some (-1))) else (none)) else (some x1)
def laws_heldIntS.f (k : Nat) (l0 : List Int) (a1 : Int) : Option (Int) := laws_heldIntS.l0 k l0 a1 0
set_option maxHeartbeats 8000000 in
set_option maxRecDepth 100000 in
theorem laws_heldIntS.calls (k : Nat) (A0 : Option Addr) (c0 : Nat) (l0 : List Int) (a1 : Int) (r : Int) (w : World) (bi : Kd.C (Kd.int .i64) w A0 l0.length l0) (bk : l0.length ≤ c0) (h : laws_heldIntS.f k l0 a1 = some r) :
  Calls Try.prog 18 #[.slice A0 l0.length c0, .int .i64 a1] w fun e w' => e = .returned (.int .i64 r) ∧ Drawn0 w w' := by
 have bx := zp.mk bi
 have dt := zp.mk bk
 clear bi bk
 have H : (laws_heldIntS.l0 k l0 a1 0) = some r := h
 clear h
 have H' := zp.mk H
 clear H
 go_enter Try.func18, Try.ntmps18
 go_wp2
 go_loopg [1, 5] k (fun kq v1 v5 w' => ∃ (am : Int) (J : Int), v1 = .int .i64 am ∧ v5 = .int .i64 J ∧ zp (laws_heldIntS.l0 kq l0 am J = some r) ∧ zp (kq ≤ k) ∧ Drawn0 w w')
 case atStart => exact ⟨(a1), (0), (by first | rfl | (simp; done) | (simp [*]; done)), (by first | rfl | (simp; done) | (simp [*]; done)), H', ⟨Nat.le_refl _⟩, by repeat (first | exact Drawn0.refl _ | apply Drawn0.step)⟩
 case round =>
  clear H'
  try clear c1
  try clear p2
  obtain ⟨am, J, rfl, rfl, HA, bg, ⟨m1, rfl⟩⟩ := hrel
  cases gk with
  | zero => exact absurd HA.out (by simp [laws_heldIntS.l0])
  | succ k1 =>
   have H := HA.out
   clear HA
   simp only [laws_heldIntS.l0] at H
   by_cases c3 : J < (l0.length : Int)
   ·rw [if_pos c3] at H
    have ay : decide (J < (l0.length : Int)) = true := decide_eq_true c3
    clear c3
    by_cases c4 : 0 ≤ J
    ·rw [if_pos c4] at H
     have a2 : decide (0 ≤ J) = true := decide_eq_true c4
     clear c4
     by_cases c5 : (rd l0 J) = am
     ·rw [if_pos c5] at H
      have cv : ((rd l0 J) == am) = true := beq_iff_eq.mpr c5
      have ey : ((rd l0 J) != am) = false := bne_eq_false_iff_eq.mpr c5
      clear c5
      have H' := zp.mk H
      clear H
      have a8 : 0 ≤ (J : Int) := of_decide_eq_true (by first | (with_reducible assumption) | assumption)
      have bn : J < (l0.length : Int) := of_decide_eq_true (by first | (with_reducible assumption) | assumption)
      obtain ⟨di, b5, bN⟩ := Kd.at_int bx.out J a8 bn
      cases b5
      replace a8 := eq_true a8
      replace bn := eq_true bn
      go_wp2
      go_roundg k1
      case measure => have := bg.out; omega
      case rel => exact ⟨(wrap64 (am + 1)), (wrap64 (J + 1)), (by first | rfl | (simp; done) | (simp [*]; done)), (by first | rfl | (simp; done) | (simp [*]; done)), H', ⟨by have := bg.out; omega⟩, by repeat (first | exact Drawn0.refl _ | apply Drawn0.step)⟩
     ·rw [if_neg c5] at H
      have cv : ((rd l0 J) == am) = false := beq_eq_false_iff_ne.mpr c5
      have ey : ((rd l0 J) != am) = true := bne_iff_ne.mpr c5
      obtain rfl := Option.some.inj H
      have a8 : 0 ≤ (J : Int) := of_decide_eq_true (by first | (with_reducible assumption) | assumption)
      have bn : J < (l0.length : Int) := of_decide_eq_true (by first | (with_reducible assumption) | assumption)
      obtain ⟨di, b5, bN⟩ := Kd.at_int bx.out J a8 bn
      cases b5
      replace a8 := eq_true a8
      replace bn := eq_true bn
      go_wp2
      go_ret
      exact ⟨by first | rfl | (simp; done) | (simp [*]; done), by repeat (first | exact Drawn0.refl _ | apply Drawn0.step)⟩
    ·rw [if_neg c4] at H
     exact absurd H (by simp)
   ·rw [if_neg c3] at H
    have ay : decide (J < (l0.length : Int)) = false := decide_eq_false c3
    clear c3
    obtain rfl := Option.some.inj H
    go_wp2
    go_ret
    exact ⟨by first | rfl | (simp; done) | (simp [*]; done), by repeat (first | exact Drawn0.refl _ | apply Drawn0.step)⟩

/-! ### laws_heldAgg: function 24 -/
def laws_heldAgg.f (k : Nat) (D : Int) (G : Int) (U : Int) (O : Int) (T : Int) (I : List Int) (a1 : Int) : Option (Int) := (laws_heldIntS.f k I a1).bind fun aE => (if aE < 0 then (some (-1)) else (some aE))
set_option maxHeartbeats 8000000 in
set_option maxRecDepth 100000 in
theorem laws_heldAgg.calls (k : Nat) (D : Int) (G : Int) (U : Int) (O : Int) (T : Int) (Y : Option Addr) (Z : Nat) (I : List Int) (a1 : Int) (r : Int) (w : World) (au : Kd.C (Kd.int .i64) w Y I.length I) (av : I.length ≤ Z) (h : laws_heldAgg.f k D G U O T I a1 = some r) :
  Calls Try.prog 24 #[.agg #[.int .i64 D, .int .i64 G, .int .u64 U, .int .i64 O, .int .i64 T, .slice Y I.length Z], .int .i64 a1] w fun e w' => e = .returned (.int .i64 r) ∧ Below w.heap.size w w' := by
 have bW := Try.underlying32
 have aC := zp.mk au
 have az := zp.mk av
 clear au av
 have HB := zp.mk (Below.refl w.heap.size w)
 have H : ((laws_heldIntS.f k I a1).bind fun aE => (if aE < 0 then (some (-1)) else (some aE))) = some r := h
 clear h
 replace H := zs4 H
 obtain ⟨aE, bo, H⟩ := H
 replace H : (if aE < 0 then (some (-1)) else (some aE)) = some r := H
 have A3 := zp.mk bo
 clear bo
 by_cases c4 : aE < 0
 ·rw [if_pos c4] at H
  have a2 : decide (aE < 0) = true := decide_eq_true c4
  clear c4
  obtain rfl := Option.some.inj H
  go_enter Try.func24, Try.ntmps24
  go_wp2_with (first | ((with_reducible refine zo (N := 2) rfl ?_); refine zm ?hg (N := 2) ?hd (cs := #[.int .i64 D, .int .i64 G, .int .u64 U, .int .i64 O, .int .i64 T, .slice Y I.length Z]) (t := 32) ?hr ?_; (case hd => rfl); (case hg => rfl); (case hr => first | (go_simp; done) | (go_simp; rfl)); intro dy hg w5 hbox hb; have x := zp.mk (hbox); have dd := zp.mk ((zv3 (zv6 HB.out) hg)); have dj := zp.mk ((zv3 (zv6 HB.out) hg)); replace HB := zp.mk (zj (zv6 HB.out) hb); clear hb hbox hg; have cG := zt0 x.out; have cH := zt1 x.out; have cK := zt2 x.out; have cx := zt3 x.out; have cR := zt4 x.out; have cM := zt5 x.out; have cu := zd x.out 0; have cO := zd x.out 1; have cD := zd x.out 2; have cF := zd x.out 3; have cE := zd x.out 4; have cP := zd x.out 5) | ((with_reducible refine zn (f := 18) rfl ?_); refine goesL_ (some 8) rfl rfl Try.func18 (by kernel_rfl) rfl #[.slice Y I.length Z, .int .i64 a1] rfl (by (try simp only [List.map_toArray, List.map_cons, List.map_nil]); first | done | rfl | (simp only [List.length_drop, List.length_take]; rfl)) ?_; (with_reducible refine (laws_heldIntS.calls k _ _ I a1 aE _ ?side1 ?side2 A3.out).mono ?_); (case side1 => repeat (first | exact (Kd.zt aC.out HB.out) | (with_reducible refine Kd.zr ?_ _) | (with_reducible refine Kd.zq ?_ _) | (with_reducible refine Kd.C_drew ?_))); (case side2 => exact az.out); rintro e w' ⟨rfl, ⟨nd, rfl⟩⟩; refine ⟨_, rfl, ?_⟩))
  go_ret
  exact ⟨by first | rfl | (simp [errW_none, errW_some] <;> rfl) | (simp [*, errW_none, errW_some] <;> rfl), zv7 HB.out⟩
 ·rw [if_neg c4] at H
  have a2 : decide (aE < 0) = false := decide_eq_false c4
  clear c4
  obtain rfl := Option.some.inj H
  go_enter Try.func24, Try.ntmps24
  go_wp2_with (first | ((with_reducible refine zo (N := 2) rfl ?_); refine zm ?hg (N := 2) ?hd (cs := #[.int .i64 D, .int .i64 G, .int .u64 U, .int .i64 O, .int .i64 T, .slice Y I.length Z]) (t := 32) ?hr ?_; (case hd => rfl); (case hg => rfl); (case hr => first | (go_simp; done) | (go_simp; rfl)); intro dy hg w7 hbox hb; have x := zp.mk (hbox); have dd := zp.mk ((zv3 (zv6 HB.out) hg)); have dj := zp.mk ((zv3 (zv6 HB.out) hg)); replace HB := zp.mk (zj (zv6 HB.out) hb); clear hb hbox hg; have cL := zt0 x.out; have cQ := zt1 x.out; have ej := zt2 x.out; have d2 := zt3 x.out; have d1 := zt4 x.out; have dT := zt5 x.out; have cy := zd x.out 0; have cB := zd x.out 1; have d0 := zd x.out 2; have el := zd x.out 3; have eo := zd x.out 4; have ep := zd x.out 5) | ((with_reducible refine zn (f := 18) rfl ?_); refine goesL_ (some 8) rfl rfl Try.func18 (by kernel_rfl) rfl #[.slice Y I.length Z, .int .i64 a1] rfl (by (try simp only [List.map_toArray, List.map_cons, List.map_nil]); first | done | rfl | (simp only [List.length_drop, List.length_take]; rfl)) ?_; (with_reducible refine (laws_heldIntS.calls k _ _ I a1 aE _ ?side1 ?side2 A3.out).mono ?_); (case side1 => repeat (first | exact (Kd.zt aC.out HB.out) | (with_reducible refine Kd.zr ?_ _) | (with_reducible refine Kd.zq ?_ _) | (with_reducible refine Kd.C_drew ?_))); (case side2 => exact az.out); rintro e w' ⟨rfl, ⟨nd, rfl⟩⟩; refine ⟨_, rfl, ?_⟩))
  go_ret
  exact ⟨by first | rfl | (simp [errW_none, errW_some] <;> rfl) | (simp [*, errW_none, errW_some] <;> rfl), zv7 HB.out⟩

end Go.Proofs.Ytnnahpmnkpmopaa.QFnExactAggJoin
