/- Proved: calls of the program come to the answers of the plain Lean functions that stand beside them. Each contract names its conditions. (Written by a program of this session, over the printer of the kit.) -/
import Derived.Test.YtdpoliolinghfaaZLatOfQFnExactLatOfx0
import Derived.Test.YtdpoliolinghfaaZLatOfQFnExactLatOfx1
import Derived.Test.YtdpoliolinghfaaZLatOfQFnExactLatOfx2
import Derived.Test.YtdpoliolinghfaaZLatOfQFnExactLatOfx4
import Derived.Test.YtdpoliolinghfaaZLatOfQFnExactLatOfx5
import Derived.Test.YtdpoliolinghfaaZLatOfQFnExactLatOfx8
import Derived.Test.YtdpoliolinghfaaZLatOfQFnExactLatOfx9
namespace Go.Proofs.Ytdpoliolinghfaa.QFnExactLatOf
open Go.RowKit Go.Proofs.YtdpoliolinghfaaW.PrintWords Go.Proofs.YtdpoliolinghfaaW.PrintLast Go.Proofs.YtdpoliolinghfaaW.PrintMore
attribute [local go_sem] max2_int min2_int max_two min_two max_three min_three max_four min_four   -- for this text's walks alone
set_option linter.unusedVariables false
set_option linter.unusedSimpArgs false

/-! ### laws_FnExactLatOf: function 11 -/
mutual
def laws_FnExactLatOf.j0 : Nat → Int → List (S94) → Bool → List (S89) → Bool → Bool → Int → List Int → Int → List Int → Option (Bool)
 | 0, _, _, _, _, _, _, _, _, _, _ => none
 | k + 1, x0, x1, x7, x8, x10, x44, x252000, x252001, x261000, x261001 => if x44 = true then (some false) else ((laws_toEdgeS.f k x1).bind fun t262 => ((laws_eqEdgeS.f k x8 t262).bind fun t265 => (if t265 = true then ((laws_markEdgeS.f k x8 1).bind fun bt266 => (if bt266.1 < 0 then (laws_FnExactLatOf.j1 k x0 x1 x7 true x252000 x252001 x261000 x261001) else ((laws_eqLat.f k x261000 x261001 x252000 x252001).bind fun t268 => (if t268 = true then (laws_FnExactLatOf.j1 k x0 x1 x7 (x10 != x7) x252000 x252001 x261000 x261001) else (laws_FnExactLatOf.j1 k x0 x1 x7 true x252000 x252001 x261000 x261001))))) else (some false))))
def laws_FnExactLatOf.j1 : Nat → Int → List (S94) → Bool → Bool → Int → List Int → Int → List Int → Option (Bool)
 | 0, _, _, _, _, _, _, _, _ => none
 | k + 1, x0, x1, x7, x65, x252000, x252001, x261000, x261001 => if x65 = true then (some false) else ((laws_markLat.f k x261000 x261001 1).bind fun bt269 => ((laws_heldLat.f k x261000 bt269.2 1).bind fun t271 => (if t271 < 0 then (some false) else (if t271 = bt269.1 then ((laws_toEdgeS.f k x1).bind fun t272 => ((impl_LatOf.f k x0 t272).bind fun bt275 => ((laws_eqLat.f k bt275.1 bt275.2.1 x252000 x252001).bind fun t281 => (if t281 = true then (laws_FnExactLatOf.j2 k bt269.1 (bt275.2.2 != x7) x261000 bt269.2) else (laws_FnExactLatOf.j2 k bt269.1 true x261000 bt269.2))))) else (some false)))))
def laws_FnExactLatOf.j2 : Nat → Int → Bool → Int → List Int → Option (Bool)
 | 0, _, _, _, _ => none
 | k + 1, x12, x92, x261000, x261001 => if x92 = true then (some false) else ((laws_heldLat.f k x261000 x261001 1).bind fun t282 => (if t282 < 0 then (some false) else (if t282 = x12 then (some true) else (some false))))
end
def laws_FnExactLatOf.f (k : Nat) (a0 : Int) (l1 : List (S94)) : Option (Bool) := (laws_szEdgeS.f l1 1048576).bind fun t242 => (if t242 < 0 then (some true) else ((laws_toEdgeS.f k l1).bind fun t243 => ((spec_LatOf.f k a0 t243).bind fun bt246 => ((laws_toEdgeS.f k l1).bind fun t252 => ((impl_LatOf.f k a0 t252).bind fun bt255 => ((laws_eqLat.f k bt255.1 bt255.2.1 bt246.1 bt246.2.1).bind fun t261 => (if t261 = true then (laws_FnExactLatOf.j0 k a0 l1 bt246.2.2 t252 bt255.2.2 (bt255.2.2 != bt246.2.2) bt246.1 bt246.2.1 bt255.1 bt255.2.1) else (laws_FnExactLatOf.j0 k a0 l1 bt246.2.2 t252 bt255.2.2 true bt246.1 bt246.2.1 bt255.1 bt255.2.1))))))))
set_option maxHeartbeats 8000000 in
set_option maxRecDepth 100000 in
theorem laws_FnExactLatOf.calls (k : Nat) (a0 : Int) (A1 : Option Addr) (c1 : Nat) (l1 : List (S94)) (r : Bool) (w : World) (hr1 : Kd.C k94 w A1 l1.length l1) (hc1 : l1.length ≤ c1) (hr_ : r = true) (h : laws_FnExactLatOf.f k a0 l1 = some r) :
  Calls Try.prog 11 #[.int .i64 a0, .slice A1 l1.length c1] w fun e w' => e = .returned (.bool r) ∧ Below w.heap.size w w' := by
 have hu27 := Try.underlying27
 have HR1 := zp.mk hr1
 have HC1 := zp.mk hc1
 clear hr1 hc1
 have HB := zp.mk (Below.refl w.heap.size w)
 have H : ((laws_szEdgeS.f l1 1048576).bind fun t242 => (if t242 < 0 then (some true) else ((laws_toEdgeS.f k l1).bind fun t243 => ((spec_LatOf.f k a0 t243).bind fun bt246 => ((laws_toEdgeS.f k l1).bind fun t252 => ((impl_LatOf.f k a0 t252).bind fun bt255 => ((laws_eqLat.f k bt255.1 bt255.2.1 bt246.1 bt246.2.1).bind fun t261 => (if t261 = true then (laws_FnExactLatOf.j0 k a0 l1 bt246.2.2 t252 bt255.2.2 (bt255.2.2 != bt246.2.2) bt246.1 bt246.2.1 bt255.1 bt255.2.1) else (laws_FnExactLatOf.j0 k a0 l1 bt246.2.2 t252 bt255.2.2 true bt246.1 bt246.2.1 bt255.1 bt255.2.1))))))))) = some r := h
 clear h
 replace H := zs4 H
 obtain ⟨t242, A30, H⟩ := H
 replace H : (if t242 < 0 then (some true) else ((laws_toEdgeS.f k l1).bind fun t243 => ((spec_LatOf.f k a0 t243).bind fun bt246 => ((laws_toEdgeS.f k l1).bind fun t252 => ((impl_LatOf.f k a0 t252).bind fun bt255 => ((laws_eqLat.f k bt255.1 bt255.2.1 bt246.1 bt246.2.1).bind fun t261 => (if t261 = true then (laws_FnExactLatOf.j0 k a0 l1 bt246.2.2 t252 bt255.2.2 (bt255.2.2 != bt246.2.2) bt246.1 bt246.2.1 bt255.1 bt255.2.1) else (laws_FnExactLatOf.j0 k a0 l1 bt246.2.2 t252 bt255.2.2 true bt246.1 bt246.2.1 bt255.1 bt255.2.1)))))))) = some r := H
 have A3 := zp.mk A30
 clear A30
 by_cases c4 : t242 < 0
 ·rw [if_pos c4] at H
  have c4b0 : decide (t242 < 0) = true := decide_eq_true c4
  clear c4
  obtain rfl := Option.some.inj H
  go_enter Try.func11, Try.ntmps11
  go_wp2_with (first | ((with_reducible refine zn (f := 44) rfl ?_); refine goesL_ (some 18) rfl rfl Try.func44 (by kernel_rfl) rfl #[.slice A1 l1.length c1, .int .i64 1048576] rfl (by (try simp only [List.map_toArray, List.map_cons, List.map_nil]); first | done | rfl | (simp only [List.length_drop, List.length_take]; rfl)) ?_; (with_reducible refine (laws_szEdgeS.calls _ _ l1 1048576 t242 _ ?side1 ?side2 A3.out).mono ?_); (case side1 => repeat (first | exact HR1.out | (with_reducible refine Kd.zr ?_ _) | (with_reducible refine Kd.zq ?_ _) | (with_reducible refine Kd.C_drew ?_))); (case side2 => exact HC1.out); rintro e w' ⟨rfl, ⟨nd, rfl⟩⟩; refine ⟨_, rfl, ?_⟩))
  go_ret
  exact ⟨by first | rfl | (simp [errW_none, errW_some] <;> rfl) | (simp [*, errW_none, errW_some] <;> rfl), zv6 HB.out⟩
 ·rw [if_neg c4] at H
  have c4b0 : decide (t242 < 0) = false := decide_eq_false c4
  clear c4
  replace H := zs4 H
  obtain ⟨t243, A50, H⟩ := H
  replace H : ((spec_LatOf.f k a0 t243).bind fun bt246 => ((laws_toEdgeS.f k l1).bind fun t252 => ((impl_LatOf.f k a0 t252).bind fun bt255 => ((laws_eqLat.f k bt255.1 bt255.2.1 bt246.1 bt246.2.1).bind fun t261 => (if t261 = true then (laws_FnExactLatOf.j0 k a0 l1 bt246.2.2 t252 bt255.2.2 (bt255.2.2 != bt246.2.2) bt246.1 bt246.2.1 bt255.1 bt255.2.1) else (laws_FnExactLatOf.j0 k a0 l1 bt246.2.2 t252 bt255.2.2 true bt246.1 bt246.2.1 bt255.1 bt255.2.1)))))) = some r := H
  have A5 := zp.mk A50
  clear A50
  replace H := zs4 H
  obtain ⟨⟨t246, t247, t250⟩, A60, H⟩ := H
  replace H : ((laws_toEdgeS.f k l1).bind fun t252 => ((impl_LatOf.f k a0 t252).bind fun bt255 => ((laws_eqLat.f k bt255.1 bt255.2.1 t246 t247).bind fun t261 => (if t261 = true then (laws_FnExactLatOf.j0 k a0 l1 t250 t252 bt255.2.2 (bt255.2.2 != t250) t246 t247 bt255.1 bt255.2.1) else (laws_FnExactLatOf.j0 k a0 l1 t250 t252 bt255.2.2 true t246 t247 bt255.1 bt255.2.1))))) = some r := H
  have A6 := zp.mk A60
  clear A60
  replace H := zs4 H
  obtain ⟨t252, A70, H⟩ := H
  replace H : ((impl_LatOf.f k a0 t252).bind fun bt255 => ((laws_eqLat.f k bt255.1 bt255.2.1 t246 t247).bind fun t261 => (if t261 = true then (laws_FnExactLatOf.j0 k a0 l1 t250 t252 bt255.2.2 (bt255.2.2 != t250) t246 t247 bt255.1 bt255.2.1) else (laws_FnExactLatOf.j0 k a0 l1 t250 t252 bt255.2.2 true t246 t247 bt255.1 bt255.2.1)))) = some r := H
  have A7 := zp.mk A70
  clear A70
  replace H := zs4 H
  obtain ⟨⟨t255, t256, t259⟩, A80, H⟩ := H
  replace H : ((laws_eqLat.f k t255 t256 t246 t247).bind fun t261 => (if t261 = true then (laws_FnExactLatOf.j0 k a0 l1 t250 t252 t259 (t259 != t250) t246 t247 t255 t256) else (laws_FnExactLatOf.j0 k a0 l1 t250 t252 t259 true t246 t247 t255 t256))) = some r := H
  have A8 := zp.mk A80
  clear A80
  have HC9 := zp.mk H
  clear H
  go_enter Try.func11, Try.ntmps11
  go_upto_region 8 with (first | ((with_reducible refine zn (f := 44) rfl ?_); refine goesL_ (some 18) rfl rfl Try.func44 (by kernel_rfl) rfl #[.slice A1 l1.length c1, .int .i64 1048576] rfl (by (try simp only [List.map_toArray, List.map_cons, List.map_nil]); first | done | rfl | (simp only [List.length_drop, List.length_take]; rfl)) ?_; (with_reducible refine (laws_szEdgeS.calls _ _ l1 1048576 t242 _ ?side1 ?side2 A3.out).mono ?_); (case side1 => repeat (first | exact HR1.out | (with_reducible refine Kd.zr ?_ _) | (with_reducible refine Kd.zq ?_ _) | (with_reducible refine Kd.C_drew ?_))); (case side2 => exact HC1.out); rintro e w' ⟨rfl, ⟨nd, rfl⟩⟩; refine ⟨_, rfl, ?_⟩) | ((with_reducible refine zn (f := 46) rfl ?_); refine goesL_ (some 24) rfl rfl Try.func46 (by kernel_rfl) rfl #[.slice A1 l1.length c1] rfl (by (try simp only [List.map_toArray, List.map_cons, List.map_nil]); first | done | rfl | (simp only [List.length_drop, List.length_take]; rfl)) ?_; (with_reducible refine (laws_toEdgeS.calls k _ _ l1 t243 _ ?side1 ?side2 A5.out).mono ?_); (case side1 => repeat (first | exact HR1.out | (with_reducible refine Kd.zr ?_ _) | (with_reducible refine Kd.zq ?_ _) | (with_reducible refine Kd.C_drew ?_))); (case side2 => exact HC1.out); rintro e w10 ⟨v244, rfl, ho0, hb⟩; refine ⟨_, rfl, ?_⟩; have HO245 := zp.mk (Kd.R_lower ho0 (zk (zv6 HB.out))); replace HB := zp.mk (zj (zv6 HB.out) hb); (try clear hb); (try clear hb2); (try clear hk); (try clear hi); (try clear ho0); obtain ⟨Ao11, co11, eo11⟩ := Kd.R_slice HO245.out; subst eo11) | ((with_reducible refine zn (f := 45) rfl ?_); refine goesL_ (some 25) rfl rfl Try.func45 (by kernel_rfl) rfl #[.int .i64 a0, .slice Ao11 t243.length co11] rfl (by (try simp only [List.map_toArray, List.map_cons, List.map_nil]); first | done | rfl | (simp only [List.length_drop, List.length_take]; rfl)) ?_; (with_reducible refine (spec_LatOf.calls k a0 _ _ t243 t246 t247 t250 _ ?side1 ?side2 A6.out).mono ?_); (case side1 => repeat (first | exact (Kd.R_reads' HO245.out).2.2 | (with_reducible refine Kd.zr ?_ _) | (with_reducible refine Kd.zq ?_ _) | (with_reducible refine Kd.C_drew ?_))); (case side2 => exact (Kd.R_reads' HO245.out).2.1); rintro e w12 ⟨v248, rfl, ho0, hb⟩; refine ⟨_, rfl, ?_⟩; have HO249 := zp.mk (Kd.R_lower ho0 (zk (zv6 HB.out))); replace HO245 := zp.mk (Kd.R_below (by (with_reducible repeat (first | apply Kd.R_alloc | apply Kd.R_drewN | apply Kd.R_drew)); exact HO245.out) hb); replace HB := zp.mk (zj (zv6 HB.out) hb); (try clear hb); (try clear hb2); (try clear hk); (try clear hi); (try clear ho0)) | ((with_reducible refine zo (N := 6) rfl ?_); refine zm ?hg (N := 6) ?hd (cs := #[.int .i64 0, .slice none 0 0]) (t := 27) ?hr ?_; (case hd => rfl); (case hg => rfl); (case hr => first | (go_simp; done) | (go_simp; rfl)); intro gb251 hg w13 hbox hb; have BK251 := zp.mk (hbox); have GW251 := zp.mk ((zv3 (zv6 HB.out) hg)); have GE251 := zp.mk ((zv3 (zv6 HB.out) hg)); replace HO245 := zp.mk (Kd.R_below (by (with_reducible repeat (first | apply Kd.R_alloc | apply Kd.R_drewN | apply Kd.R_drew)); exact HO245.out) hb); replace HO249 := zp.mk (Kd.R_below (by (with_reducible repeat (first | apply Kd.R_alloc | apply Kd.R_drewN | apply Kd.R_drew)); exact HO249.out) hb); replace HB := zp.mk (zj (zv6 HB.out) hb); clear hb hbox hg; have y14_0 := zt0 BK251.out; have y14_1 := zt1 BK251.out; have u14_0 := zd BK251.out 0; have u14_1 := zd BK251.out 1; obtain ⟨Ao15, co15, eo15⟩ := Kd.R_slice HO249.out; subst eo15) | ((with_reducible refine zn (f := 46) rfl ?_); refine goesL_ (some 29) rfl rfl Try.func46 (by kernel_rfl) rfl #[.slice A1 l1.length c1] rfl (by (try simp only [List.map_toArray, List.map_cons, List.map_nil]); first | done | rfl | (simp only [List.length_drop, List.length_take]; rfl)) ?_; (with_reducible refine (laws_toEdgeS.calls k _ _ l1 t252 _ ?side1 ?side2 A7.out).mono ?_); (case side1 => exact Kd.zs HR1.out (zv7 HB.out)); (case side2 => exact HC1.out); rintro e w16 ⟨v253, rfl, ho0, hb⟩; refine ⟨_, rfl, ?_⟩; have HO254 := zp.mk (Kd.R_lower (Kd.R_new' ho0 (Kd.R_lt (by (with_reducible repeat (first | apply Kd.R_alloc | apply Kd.R_drewN | apply Kd.R_drew)); exact (Kd.R_mono (Kd.R_far (p := ⟨gb251, 1, none⟩) (Kd.R_far (p := ⟨gb251, 0, none⟩) (Kd.R_types HO245.out BK251.out (by decide)) (fun _ hk => hk.2) (.int .i64 t246)) (fun _ hk => hk.2) (.slice Ao15 t247.length co15)) (fun _ h_ => h_.1))))) (zk (zv7 HB.out))); replace HO245 := zp.mk (Kd.R_elder' (by (with_reducible repeat (first | apply Kd.R_alloc | apply Kd.R_drewN | apply Kd.R_drew)); exact (Kd.R_mono (Kd.R_far (p := ⟨gb251, 1, none⟩) (Kd.R_far (p := ⟨gb251, 0, none⟩) (Kd.R_types HO245.out BK251.out (by decide)) (fun _ hk => hk.2) (.int .i64 t246)) (fun _ hk => hk.2) (.slice Ao15 t247.length co15)) (fun _ h_ => h_.1))) (Kd.R_base ho0) hb); replace HO249 := zp.mk (Kd.R_below (by (with_reducible repeat (first | apply Kd.R_alloc | apply Kd.R_drewN | apply Kd.R_drew)); exact (Kd.R_mono (Kd.R_far (p := ⟨gb251, 1, none⟩) (Kd.R_far (p := ⟨gb251, 0, none⟩) (Kd.R_types HO249.out BK251.out (by decide)) (fun _ hk => hk.2) (.int .i64 t246)) (fun _ hk => hk.2) (.slice Ao15 t247.length co15)) (fun _ h_ => h_.1))) hb); replace BK251 := zp.mk (zl (g := gb251) (o := .cells #[.int .i64 t246, .slice Ao15 t247.length co15] 27 (0, 0)) (by (with_reducible repeat (first | refine zf ?_ _ | refine zi ?_ | refine zg ?_ _)); refine blk_put (cs := #[.int .i64 t246, .slice none 0 0]) ?_ 1 _ rfl; (with_reducible repeat (first | refine zf ?_ _ | refine zi ?_ | refine zg ?_ _)); refine blk_put (cs := #[.int .i64 0, .slice none 0 0]) ?_ 0 _ rfl; (with_reducible repeat (first | refine zf ?_ _ | refine zi ?_ | refine zg ?_ _)); exact BK251.out) hb); replace HB := zp.mk (zj (zv7 HB.out) hb); (try clear hb); (try clear hb2); (try clear hk); (try clear hi); (try clear ho0); obtain ⟨Ao17, co17, eo17⟩ := Kd.R_slice HO254.out; subst eo17) | ((with_reducible refine zn (f := 47) rfl ?_); refine goesL_ (some 33) rfl rfl Try.func47 (by kernel_rfl) rfl #[.int .i64 a0, .slice Ao17 t252.length co17] rfl (by (try simp only [List.map_toArray, List.map_cons, List.map_nil]); first | done | rfl | (simp only [List.length_drop, List.length_take]; rfl)) ?_; (with_reducible refine (impl_LatOf.calls k a0 _ _ t252 t255 t256 t259 _ ?side1 ?side2 A8.out).mono ?_); (case side1 => repeat (first | exact (Kd.R_reads' HO254.out).2.2 | (with_reducible refine Kd.zr ?_ _) | (with_reducible refine Kd.zq ?_ _) | (with_reducible refine Kd.C_drew ?_))); (case side2 => exact (Kd.R_reads' HO254.out).2.1); rintro e w18 ⟨v257, rfl, ho0, hb⟩; refine ⟨_, rfl, ?_⟩; have HO258 := zp.mk (Kd.R_lower (Kd.R_new' ho0 (Kd.R_lt (by (with_reducible repeat (first | apply Kd.R_alloc | apply Kd.R_drewN | apply Kd.R_drew)); exact HO249.out))) (zk (zv7 HB.out))); replace HO245 := zp.mk (Kd.R_below (by (with_reducible repeat (first | apply Kd.R_alloc | apply Kd.R_drewN | apply Kd.R_drew)); exact HO245.out) hb); replace HO249 := zp.mk (Kd.R_elder' (by (with_reducible repeat (first | apply Kd.R_alloc | apply Kd.R_drewN | apply Kd.R_drew)); exact HO249.out) (Kd.R_base ho0) hb); replace HO254 := zp.mk (Kd.R_below (by (with_reducible repeat (first | apply Kd.R_alloc | apply Kd.R_drewN | apply Kd.R_drew)); exact HO254.out) hb); replace BK251 := zp.mk (zl (zv8 BK251.out) hb); replace HB := zp.mk (zj (zv7 HB.out) hb); (try clear hb); (try clear hb2); (try clear hk); (try clear hi); (try clear ho0)) | ((with_reducible refine zo (N := 9) rfl ?_); refine zm ?hg (N := 9) ?hd (cs := #[.int .i64 0, .slice none 0 0]) (t := 27) ?hr ?_; (case hd => rfl); (case hg => rfl); (case hr => first | (go_simp; done) | (go_simp; rfl)); intro gb260 hg w19 hbox hb; have BK260 := zp.mk (hbox); have GW260 := zp.mk ((zv3 (zv7 HB.out) hg)); have GE260 := zp.mk ((zv3 (zv7 HB.out) hg)); have NB251_260 := zp.mk ((by rw [hg]; exact Nat.ne_of_lt (blk_lt (g := gb251) (o := .cells #[.int .i64 t246, .slice Ao15 t247.length co15] 27 (0, 0)) (zv8 BK251.out)) : gb251 ≠ gb260)); have NB260_251 := zp.mk ((by rw [hg]; exact Nat.ne_of_gt (blk_lt (g := gb251) (o := .cells #[.int .i64 t246, .slice Ao15 t247.length co15] 27 (0, 0)) (zv8 BK251.out)) : gb260 ≠ gb251)); replace HO245 := zp.mk (Kd.R_below (by (with_reducible repeat (first | apply Kd.R_alloc | apply Kd.R_drewN | apply Kd.R_drew)); exact HO245.out) hb); replace HO249 := zp.mk (Kd.R_below (by (with_reducible repeat (first | apply Kd.R_alloc | apply Kd.R_drewN | apply Kd.R_drew)); exact HO249.out) hb); replace HO254 := zp.mk (Kd.R_below (by (with_reducible repeat (first | apply Kd.R_alloc | apply Kd.R_drewN | apply Kd.R_drew)); exact HO254.out) hb); replace HO258 := zp.mk (Kd.R_below (by (with_reducible repeat (first | apply Kd.R_alloc | apply Kd.R_drewN | apply Kd.R_drew)); exact HO258.out) hb); replace BK251 := zp.mk (zl (zv8 BK251.out) hb); replace HB := zp.mk (zj (zv7 HB.out) hb); clear hb hbox hg; have hnb20 := NB260_251.out; have hnc20 := NB251_260.out; have y21_0 := zt0 BK260.out; have y21_1 := zt1 BK260.out; have u21_0 := zd BK260.out 0; have u21_1 := zd BK260.out 1; obtain ⟨Ao22, co22, eo22⟩ := Kd.R_slice HO258.out; subst eo22))
  (try simp only [Act.put, zs1, zs2, zs3])
  go_cut [44] (fun v44 wc => ∃ (kq : Nat) (x44_8 : Bool), v44 = .bool x44_8 ∧ zp (laws_FnExactLatOf.j0 kq a0 l1 t250 t252 t259 x44_8 t246 t247 t255 t256 = some r) ∧ zp (kq ≤ k) ∧ zp (Kd.R k89 89 wc w.heap.size (fun _ => True) (.slice Ao17 t252.length co17) t252) ∧ zp (Kd.R (Kd.int .u64) 76 wc w.heap.size (fun k_ => some k_ ≠ ((.slice Ao22 t256.length co22) : Value).ownBlock) (.slice Ao15 t247.length co15) t247) ∧ zp (Kd.R (Kd.int .u64) 76 wc w.heap.size (fun k_ => some k_ ≠ ((.slice Ao15 t247.length co15) : Value).ownBlock) (.slice Ao22 t256.length co22) t256) ∧ zp (wc.heap[gb251]? = some (.cells #[.int .i64 t246, (.slice Ao15 t247.length co15)] 27 (0, 0))) ∧ zp (wc.heap[gb260]? = some (.cells #[.int .i64 t255, (.slice Ao22 t256.length co22)] 27 (0, 0))) ∧ zp (Below w.heap.size w wc))
  case first =>
   have H := HC9.out
   clear HC9
   replace H := zs4 H
   obtain ⟨t261, A230, H⟩ := H
   replace H : (if t261 = true then (laws_FnExactLatOf.j0 k a0 l1 t250 t252 t259 (t259 != t250) t246 t247 t255 t256) else (laws_FnExactLatOf.j0 k a0 l1 t250 t252 t259 true t246 t247 t255 t256)) = some r := H
   have A23 := zp.mk A230
   clear A230
   by_cases c24 : t261 = true
   ·subst c24
    have H1 : (laws_FnExactLatOf.j0 k a0 l1 t250 t252 t259 (t259 != t250) t246 t247 t255 t256) = some r := by rw [if_pos rfl] at H; exact H
    clear H
    have H := H1
    clear H1
    have H' := zp.mk H
    clear H
    have hnb25 := NB260_251.out
    have hnc25 := NB251_260.out
    have y26_0 := zt0 BK260.out
    have y26_1 := zt1 BK260.out
    have u26_0 := zd BK260.out 0
    have u26_1 := zd BK260.out 1
    have y27_0 := zt0 BK251.out
    have y27_1 := zt1 BK251.out
    have u27_0 := zd BK251.out 0
    have u27_1 := zd BK251.out 1
    go_wp2_with (first | ((with_reducible refine zn (f := 21) rfl ?_); refine goesL_ (some 38) rfl rfl Try.func21 (by kernel_rfl) rfl #[.agg #[.int .i64 t255, .slice Ao22 t256.length co22], .agg #[.int .i64 t246, .slice Ao15 t247.length co15]] rfl (by (try simp only [List.map_toArray, List.map_cons, List.map_nil]); first | done | rfl | (simp only [List.length_drop, List.length_take]; rfl)) ?_; (with_reducible refine (laws_eqLat.calls k t255 _ _ t256 t246 _ _ t247 true _ ?side1 ?side2 ?side3 ?side4 A23.out).mono ?_); (case side1 => refine (Kd.R_reads' (e := 76) (base := w.heap.size) (ok := fun k_ => (True ∧ some k_ ≠ (.slice Ao15 t247.length co15 : Value).ownBlock)) (n := t256.length) (c := co22) ?_).2.2; exact (by (with_reducible repeat (first | apply Kd.R_alloc | apply Kd.R_drewN | apply Kd.R_drew)); exact (Kd.R_mono (Kd.R_far (p := ⟨gb260, 1, none⟩) (Kd.R_far (p := ⟨gb260, 0, none⟩) (Kd.R_types HO258.out BK260.out (by decide)) (fun _ hk => hk.2) (.int .i64 t255)) (fun _ hk => hk.2) (.slice Ao22 t256.length co22)) (fun _ h_ => h_.1)))); (case side2 => exact (Kd.R_reads' HO258.out).2.1); (case side3 => refine (Kd.R_reads' (e := 76) (base := w.heap.size) (ok := fun k_ => (True ∧ some k_ ≠ (.slice Ao22 t256.length co22 : Value).ownBlock)) (n := t247.length) (c := co15) ?_).2.2; exact (by (with_reducible repeat (first | apply Kd.R_alloc | apply Kd.R_drewN | apply Kd.R_drew)); exact (Kd.R_mono (Kd.R_far (p := ⟨gb260, 1, none⟩) (Kd.R_far (p := ⟨gb260, 0, none⟩) (Kd.R_types HO249.out BK260.out (by decide)) (fun _ hk => hk.2) (.int .i64 t255)) (fun _ hk => hk.2) (.slice Ao22 t256.length co22)) (fun _ h_ => h_.1)))); (case side4 => exact (Kd.R_reads' HO249.out).2.1); rintro e w28 ⟨rfl, hb⟩; refine ⟨_, rfl, ?_⟩; replace HO245 := zp.mk (Kd.R_below (by (with_reducible repeat (first | apply Kd.R_alloc | apply Kd.R_drewN | apply Kd.R_drew)); exact (Kd.R_mono (Kd.R_far (p := ⟨gb260, 1, none⟩) (Kd.R_far (p := ⟨gb260, 0, none⟩) (Kd.R_types HO245.out BK260.out (by decide)) (fun _ hk => hk.2) (.int .i64 t255)) (fun _ hk => hk.2) (.slice Ao22 t256.length co22)) (fun _ h_ => h_.1))) hb); replace HO249 := zp.mk (Kd.R_below (by (with_reducible repeat (first | apply Kd.R_alloc | apply Kd.R_drewN | apply Kd.R_drew)); exact (Kd.R_mono (Kd.R_far (p := ⟨gb260, 1, none⟩) (Kd.R_far (p := ⟨gb260, 0, none⟩) (Kd.R_types HO249.out BK260.out (by decide)) (fun _ hk => hk.2) (.int .i64 t255)) (fun _ hk => hk.2) (.slice Ao22 t256.length co22)) (fun _ h_ => h_.1))) hb); replace HO254 := zp.mk (Kd.R_below (by (with_reducible repeat (first | apply Kd.R_alloc | apply Kd.R_drewN | apply Kd.R_drew)); exact (Kd.R_mono (Kd.R_far (p := ⟨gb260, 1, none⟩) (Kd.R_far (p := ⟨gb260, 0, none⟩) (Kd.R_types HO254.out BK260.out (by decide)) (fun _ hk => hk.2) (.int .i64 t255)) (fun _ hk => hk.2) (.slice Ao22 t256.length co22)) (fun _ h_ => h_.1))) hb); replace HO258 := zp.mk (Kd.R_below (by (with_reducible repeat (first | apply Kd.R_alloc | apply Kd.R_drewN | apply Kd.R_drew)); exact (Kd.R_mono (Kd.R_far (p := ⟨gb260, 1, none⟩) (Kd.R_far (p := ⟨gb260, 0, none⟩) (Kd.R_types HO258.out BK260.out (by decide)) (fun _ hk => hk.2) (.int .i64 t255)) (fun _ hk => hk.2) (.slice Ao22 t256.length co22)) (fun _ h_ => h_.1))) hb); replace BK251 := zp.mk (zl (g := gb251) (o := .cells #[.int .i64 t246, .slice Ao15 t247.length co15] 27 (0, 0)) (by (with_reducible repeat (first | refine zf ?_ _ | refine zi ?_ | refine zg ?_ _)); refine blk_far ?_ NB251_260.out _; (with_reducible repeat (first | refine zf ?_ _ | refine zi ?_ | refine zg ?_ _)); refine blk_far ?_ NB251_260.out _; (with_reducible repeat (first | refine zf ?_ _ | refine zi ?_ | refine zg ?_ _)); exact BK251.out) hb); replace BK260 := zp.mk (zl (g := gb260) (o := .cells #[.int .i64 t255, .slice Ao22 t256.length co22] 27 (0, 0)) (by (with_reducible repeat (first | refine zf ?_ _ | refine zi ?_ | refine zg ?_ _)); refine blk_put (cs := #[.int .i64 t255, .slice none 0 0]) ?_ 1 _ rfl; (with_reducible repeat (first | refine zf ?_ _ | refine zi ?_ | refine zg ?_ _)); refine blk_put (cs := #[.int .i64 0, .slice none 0 0]) ?_ 0 _ rfl; (with_reducible repeat (first | refine zf ?_ _ | refine zi ?_ | refine zg ?_ _)); exact BK260.out) hb); replace HB := zp.mk (zj (zv7 HB.out) hb); (try clear hb); (try clear hb2); (try clear hk); (try clear hi)))
    go_meet
    case rel => exact ⟨_, ((t259 != t250)), (by first | rfl | (simp; done) | (simp [*]; done)), H', ⟨by first | omega | exact Nat.le_refl _⟩, ⟨by (with_reducible repeat (first | apply Kd.R_alloc | apply Kd.R_drewN | apply Kd.R_drew)); exact Kd.R_mono HO254.out (fun _ hk => trivial)⟩, ⟨by (with_reducible repeat (first | apply Kd.R_alloc | apply Kd.R_drewN | apply Kd.R_drew)); exact Kd.R_mono HO249.out (fun _ hk => hk.2)⟩, ⟨by (with_reducible repeat (first | apply Kd.R_alloc | apply Kd.R_drewN | apply Kd.R_drew)); exact Kd.R_mono HO258.out (fun _ hk => hk.2)⟩, ⟨zv8 BK251.out⟩, ⟨zv8 BK260.out⟩, ⟨zv7 HB.out⟩⟩
   ·replace c24 := Bool.eq_false_iff.mpr c24
    subst c24
    have H1 : (laws_FnExactLatOf.j0 k a0 l1 t250 t252 t259 true t246 t247 t255 t256) = some r := by rw [if_neg (show ¬ (false = true) by decide)] at H; exact H
    clear H
    have H := H1
    clear H1
    have H' := zp.mk H
    clear H
    have hnb29 := NB260_251.out
    have hnc29 := NB251_260.out
    have y30_0 := zt0 BK260.out
    have y30_1 := zt1 BK260.out
    have u30_0 := zd BK260.out 0
    have u30_1 := zd BK260.out 1
    have y31_0 := zt0 BK251.out
    have y31_1 := zt1 BK251.out
    have u31_0 := zd BK251.out 0
    have u31_1 := zd BK251.out 1
    go_wp2_with (first | ((with_reducible refine zn (f := 21) rfl ?_); refine goesL_ (some 38) rfl rfl Try.func21 (by kernel_rfl) rfl #[.agg #[.int .i64 t255, .slice Ao22 t256.length co22], .agg #[.int .i64 t246, .slice Ao15 t247.length co15]] rfl (by (try simp only [List.map_toArray, List.map_cons, List.map_nil]); first | done | rfl | (simp only [List.length_drop, List.length_take]; rfl)) ?_; (with_reducible refine (laws_eqLat.calls k t255 _ _ t256 t246 _ _ t247 false _ ?side1 ?side2 ?side3 ?side4 A23.out).mono ?_); (case side1 => refine (Kd.R_reads' (e := 76) (base := w.heap.size) (ok := fun k_ => (True ∧ some k_ ≠ (.slice Ao15 t247.length co15 : Value).ownBlock)) (n := t256.length) (c := co22) ?_).2.2; exact (by (with_reducible repeat (first | apply Kd.R_alloc | apply Kd.R_drewN | apply Kd.R_drew)); exact (Kd.R_mono (Kd.R_far (p := ⟨gb260, 1, none⟩) (Kd.R_far (p := ⟨gb260, 0, none⟩) (Kd.R_types HO258.out BK260.out (by decide)) (fun _ hk => hk.2) (.int .i64 t255)) (fun _ hk => hk.2) (.slice Ao22 t256.length co22)) (fun _ h_ => h_.1)))); (case side2 => exact (Kd.R_reads' HO258.out).2.1); (case side3 => refine (Kd.R_reads' (e := 76) (base := w.heap.size) (ok := fun k_ => (True ∧ some k_ ≠ (.slice Ao22 t256.length co22 : Value).ownBlock)) (n := t247.length) (c := co15) ?_).2.2; exact (by (with_reducible repeat (first | apply Kd.R_alloc | apply Kd.R_drewN | apply Kd.R_drew)); exact (Kd.R_mono (Kd.R_far (p := ⟨gb260, 1, none⟩) (Kd.R_far (p := ⟨gb260, 0, none⟩) (Kd.R_types HO249.out BK260.out (by decide)) (fun _ hk => hk.2) (.int .i64 t255)) (fun _ hk => hk.2) (.slice Ao22 t256.length co22)) (fun _ h_ => h_.1)))); (case side4 => exact (Kd.R_reads' HO249.out).2.1); rintro e w32 ⟨rfl, hb⟩; refine ⟨_, rfl, ?_⟩; replace HO245 := zp.mk (Kd.R_below (by (with_reducible repeat (first | apply Kd.R_alloc | apply Kd.R_drewN | apply Kd.R_drew)); exact (Kd.R_mono (Kd.R_far (p := ⟨gb260, 1, none⟩) (Kd.R_far (p := ⟨gb260, 0, none⟩) (Kd.R_types HO245.out BK260.out (by decide)) (fun _ hk => hk.2) (.int .i64 t255)) (fun _ hk => hk.2) (.slice Ao22 t256.length co22)) (fun _ h_ => h_.1))) hb); replace HO249 := zp.mk (Kd.R_below (by (with_reducible repeat (first | apply Kd.R_alloc | apply Kd.R_drewN | apply Kd.R_drew)); exact (Kd.R_mono (Kd.R_far (p := ⟨gb260, 1, none⟩) (Kd.R_far (p := ⟨gb260, 0, none⟩) (Kd.R_types HO249.out BK260.out (by decide)) (fun _ hk => hk.2) (.int .i64 t255)) (fun _ hk => hk.2) (.slice Ao22 t256.length co22)) (fun _ h_ => h_.1))) hb); replace HO254 := zp.mk (Kd.R_below (by (with_reducible repeat (first | apply Kd.R_alloc | apply Kd.R_drewN | apply Kd.R_drew)); exact (Kd.R_mono (Kd.R_far (p := ⟨gb260, 1, none⟩) (Kd.R_far (p := ⟨gb260, 0, none⟩) (Kd.R_types HO254.out BK260.out (by decide)) (fun _ hk => hk.2) (.int .i64 t255)) (fun _ hk => hk.2) (.slice Ao22 t256.length co22)) (fun _ h_ => h_.1))) hb); replace HO258 := zp.mk (Kd.R_below (by (with_reducible repeat (first | apply Kd.R_alloc | apply Kd.R_drewN | apply Kd.R_drew)); exact (Kd.R_mono (Kd.R_far (p := ⟨gb260, 1, none⟩) (Kd.R_far (p := ⟨gb260, 0, none⟩) (Kd.R_types HO258.out BK260.out (by decide)) (fun _ hk => hk.2) (.int .i64 t255)) (fun _ hk => hk.2) (.slice Ao22 t256.length co22)) (fun _ h_ => h_.1))) hb); replace BK251 := zp.mk (zl (g := gb251) (o := .cells #[.int .i64 t246, .slice Ao15 t247.length co15] 27 (0, 0)) (by (with_reducible repeat (first | refine zf ?_ _ | refine zi ?_ | refine zg ?_ _)); refine blk_far ?_ NB251_260.out _; (with_reducible repeat (first | refine zf ?_ _ | refine zi ?_ | refine zg ?_ _)); refine blk_far ?_ NB251_260.out _; (with_reducible repeat (first | refine zf ?_ _ | refine zi ?_ | refine zg ?_ _)); exact BK251.out) hb); replace BK260 := zp.mk (zl (g := gb260) (o := .cells #[.int .i64 t255, .slice Ao22 t256.length co22] 27 (0, 0)) (by (with_reducible repeat (first | refine zf ?_ _ | refine zi ?_ | refine zg ?_ _)); refine blk_put (cs := #[.int .i64 t255, .slice none 0 0]) ?_ 1 _ rfl; (with_reducible repeat (first | refine zf ?_ _ | refine zi ?_ | refine zg ?_ _)); refine blk_put (cs := #[.int .i64 0, .slice none 0 0]) ?_ 0 _ rfl; (with_reducible repeat (first | refine zf ?_ _ | refine zi ?_ | refine zg ?_ _)); exact BK260.out) hb); replace HB := zp.mk (zj (zv7 HB.out) hb); (try clear hb); (try clear hb2); (try clear hk); (try clear hi)))
    go_meet
    case rel => exact ⟨_, (true), (by first | rfl | (simp; done) | (simp [*]; done)), H', ⟨by first | omega | exact Nat.le_refl _⟩, ⟨by (with_reducible repeat (first | apply Kd.R_alloc | apply Kd.R_drewN | apply Kd.R_drew)); exact Kd.R_mono HO254.out (fun _ hk => trivial)⟩, ⟨by (with_reducible repeat (first | apply Kd.R_alloc | apply Kd.R_drewN | apply Kd.R_drew)); exact Kd.R_mono HO249.out (fun _ hk => hk.2)⟩, ⟨by (with_reducible repeat (first | apply Kd.R_alloc | apply Kd.R_drewN | apply Kd.R_drew)); exact Kd.R_mono HO258.out (fun _ hk => hk.2)⟩, ⟨zv8 BK251.out⟩, ⟨zv8 BK260.out⟩, ⟨zv7 HB.out⟩⟩
  case rest =>
   clear HC9
   try clear c1
   try clear c2
   try clear p2
   try clear c4
   try clear c4b0
   try clear c11
   try clear c20
   try clear c21
   try clear c24
   try clear c25
   try clear c29
   try clear y14_0
   try clear y14_1
   try clear y21_0
   try clear y21_1
   try clear y26_0
   try clear y26_1
   try clear y27_0
   try clear y27_1
   try clear y30_0
   try clear y30_1
   try clear y31_0
   try clear y31_1
   try clear u14_0
   try clear u14_1
   try clear u21_0
   try clear u21_1
   try clear u26_0
   try clear u26_1
   try clear u27_0
   try clear u27_1
   try clear u30_0
   try clear u30_1
   try clear u31_0
   try clear u31_1
   obtain ⟨kq, x44_8, rfl, HA, HJ8, HO_8, HO_252001, HO_261001, BK251, BK260, HB⟩ := hcut
   cases kq with
   | zero => exact absurd HA.out (by simp [laws_FnExactLatOf.j0])
   | succ kj8 =>
    have H := HA.out
    clear HA
    simp only [laws_FnExactLatOf.j0] at H
    by_cases c33 : x44_8 = true
    ·subst c33
     have H1 : (some false) = some r := by rw [if_pos rfl] at H; exact H
     clear H
     have H := H1
     clear H1
     exact absurd ((Option.some.inj H).trans hr_) (by decide)
    ·replace c33 := Bool.eq_false_iff.mpr c33
     subst c33
     have H1 : ((laws_toEdgeS.f kj8 l1).bind fun t262 => ((laws_eqEdgeS.f kj8 t252 t262).bind fun t265 => (if t265 = true then ((laws_markEdgeS.f kj8 t252 1).bind fun bt266 => (if bt266.1 < 0 then (laws_FnExactLatOf.j1 kj8 a0 l1 t250 true t246 t247 t255 t256) else ((laws_eqLat.f kj8 t255 t256 t246 t247).bind fun t268 => (if t268 = true then (laws_FnExactLatOf.j1 kj8 a0 l1 t250 (t259 != t250) t246 t247 t255 t256) else (laws_FnExactLatOf.j1 kj8 a0 l1 t250 true t246 t247 t255 t256))))) else (some false)))) = some r := by rw [if_neg (show ¬ (false = true) by decide)] at H; exact H
     clear H
     have H := H1
     clear H1
     replace H := zs4 H
     obtain ⟨t262, A340, H⟩ := H
     replace H : ((laws_eqEdgeS.f kj8 t252 t262).bind fun t265 => (if t265 = true then ((laws_markEdgeS.f kj8 t252 1).bind fun bt266 => (if bt266.1 < 0 then (laws_FnExactLatOf.j1 kj8 a0 l1 t250 true t246 t247 t255 t256) else ((laws_eqLat.f kj8 t255 t256 t246 t247).bind fun t268 => (if t268 = true then (laws_FnExactLatOf.j1 kj8 a0 l1 t250 (t259 != t250) t246 t247 t255 t256) else (laws_FnExactLatOf.j1 kj8 a0 l1 t250 true t246 t247 t255 t256))))) else (some false))) = some r := H
     have A34 := zp.mk A340
     clear A340
     replace H := zs4 H
     obtain ⟨t265, A350, H⟩ := H
     replace H : (if t265 = true then ((laws_markEdgeS.f kj8 t252 1).bind fun bt266 => (if bt266.1 < 0 then (laws_FnExactLatOf.j1 kj8 a0 l1 t250 true t246 t247 t255 t256) else ((laws_eqLat.f kj8 t255 t256 t246 t247).bind fun t268 => (if t268 = true then (laws_FnExactLatOf.j1 kj8 a0 l1 t250 (t259 != t250) t246 t247 t255 t256) else (laws_FnExactLatOf.j1 kj8 a0 l1 t250 true t246 t247 t255 t256))))) else (some false)) = some r := H
     have A35 := zp.mk A350
     clear A350
     by_cases c36 : t265 = true
     ·subst c36
      have H1 : ((laws_markEdgeS.f kj8 t252 1).bind fun bt266 => (if bt266.1 < 0 then (laws_FnExactLatOf.j1 kj8 a0 l1 t250 true t246 t247 t255 t256) else ((laws_eqLat.f kj8 t255 t256 t246 t247).bind fun t268 => (if t268 = true then (laws_FnExactLatOf.j1 kj8 a0 l1 t250 (t259 != t250) t246 t247 t255 t256) else (laws_FnExactLatOf.j1 kj8 a0 l1 t250 true t246 t247 t255 t256))))) = some r := by rw [if_pos rfl] at H; exact H
      clear H
      have H := H1
      clear H1
      replace H := zs4 H
      obtain ⟨⟨t266, t267⟩, A370, H⟩ := H
      replace H : (if t266 < 0 then (laws_FnExactLatOf.j1 kj8 a0 l1 t250 true t246 t247 t255 t256) else ((laws_eqLat.f kj8 t255 t256 t246 t247).bind fun t268 => (if t268 = true then (laws_FnExactLatOf.j1 kj8 a0 l1 t250 (t259 != t250) t246 t247 t255 t256) else (laws_FnExactLatOf.j1 kj8 a0 l1 t250 true t246 t247 t255 t256)))) = some r := H
      have A37 := zp.mk A370
      clear A370
      have HC38 := zp.mk H
      clear H
      go_upto_region 14 with (first | ((with_reducible refine zn (f := 46) rfl ?_); refine goesL_ (some 47) rfl rfl Try.func46 (by kernel_rfl) rfl #[.slice A1 l1.length c1] rfl (by (try simp only [List.map_toArray, List.map_cons, List.map_nil]); first | done | rfl | (simp only [List.length_drop, List.length_take]; rfl)) ?_; (with_reducible refine (laws_toEdgeS.calls kj8 _ _ l1 t262 _ ?side1 ?side2 A34.out).mono ?_); (case side1 => repeat (first | exact (Kd.zs HR1.out HB.out) | (with_reducible refine Kd.zr ?_ _) | (with_reducible refine Kd.zq ?_ _) | (with_reducible refine Kd.C_drew ?_))); (case side2 => exact HC1.out); rintro e w39 ⟨v263, rfl, ho0, hb⟩; refine ⟨_, rfl, ?_⟩; have HO264 := zp.mk (Kd.R_lower (Kd.R_new' ho0 (Kd.R_lt (by (with_reducible repeat (first | apply Kd.R_alloc | apply Kd.R_drewN | apply Kd.R_drew)); exact HO_8.out))) (zk (zv7 HB.out))); replace HO_8 := zp.mk (Kd.R_elder' (by (with_reducible repeat (first | apply Kd.R_alloc | apply Kd.R_drewN | apply Kd.R_drew)); exact HO_8.out) (Kd.R_base ho0) hb); replace HO_252001 := zp.mk (Kd.R_below (by (with_reducible repeat (first | apply Kd.R_alloc | apply Kd.R_drewN | apply Kd.R_drew)); exact HO_252001.out) hb); replace HO_261001 := zp.mk (Kd.R_below (by (with_reducible repeat (first | apply Kd.R_alloc | apply Kd.R_drewN | apply Kd.R_drew)); exact HO_261001.out) hb); replace BK251 := zp.mk (zl (zv8 BK251.out) hb); replace BK260 := zp.mk (zl (zv8 BK260.out) hb); replace HB := zp.mk (zj (zv7 HB.out) hb); (try clear hb); (try clear hb2); (try clear hk); (try clear hi); (try clear ho0); obtain ⟨Ao40, co40, eo40⟩ := Kd.R_slice HO264.out; subst eo40) | ((with_reducible refine zn (f := 41) rfl ?_); refine goesL_ (some 48) rfl rfl Try.func41 (by kernel_rfl) rfl #[.slice Ao17 t252.length co17, .slice Ao40 t262.length co40] rfl (by (try simp only [List.map_toArray, List.map_cons, List.map_nil]); first | done | rfl | (simp only [List.length_drop, List.length_take]; rfl)) ?_; (with_reducible refine (laws_eqEdgeS.calls kj8 _ _ t252 _ _ t262 true _ ?side1 ?side2 ?side3 ?side4 A35.out).mono ?_); (case side1 => repeat (first | exact (Kd.R_reads' HO_8.out).2.2 | (with_reducible refine Kd.zr ?_ _) | (with_reducible refine Kd.zq ?_ _) | (with_reducible refine Kd.C_drew ?_))); (case side2 => exact (Kd.R_reads' HO_8.out).2.1); (case side3 => repeat (first | exact (Kd.R_reads' HO264.out).2.2 | (with_reducible refine Kd.zr ?_ _) | (with_reducible refine Kd.zq ?_ _) | (with_reducible refine Kd.C_drew ?_))); (case side4 => exact (Kd.R_reads' HO264.out).2.1); rintro e w41 ⟨rfl, hb⟩; refine ⟨_, rfl, ?_⟩; replace HO_8 := zp.mk (Kd.R_below (by (with_reducible repeat (first | apply Kd.R_alloc | apply Kd.R_drewN | apply Kd.R_drew)); exact HO_8.out) hb); replace HO_252001 := zp.mk (Kd.R_below (by (with_reducible repeat (first | apply Kd.R_alloc | apply Kd.R_drewN | apply Kd.R_drew)); exact HO_252001.out) hb); replace HO_261001 := zp.mk (Kd.R_below (by (with_reducible repeat (first | apply Kd.R_alloc | apply Kd.R_drewN | apply Kd.R_drew)); exact HO_261001.out) hb); replace HO264 := zp.mk (Kd.R_below (by (with_reducible repeat (first | apply Kd.R_alloc | apply Kd.R_drewN | apply Kd.R_drew)); exact HO264.out) hb); replace BK251 := zp.mk (zl (zv8 BK251.out) hb); replace BK260 := zp.mk (zl (zv8 BK260.out) hb); replace HB := zp.mk (zj (zv7 HB.out) hb); (try clear hb); (try clear hb2); (try clear hk); (try clear hi)) | ((with_reducible refine zn (f := 42) rfl ?_); refine goesL_ (some 52) rfl rfl Try.func42 (by kernel_rfl) rfl #[.slice Ao17 t252.length co17, .int .i64 1] rfl (by (try simp only [List.map_toArray, List.map_cons, List.map_nil]); first | done | rfl | (simp only [List.length_drop, List.length_take]; rfl)) ?_; (with_reducible refine (laws_markEdgeS.calls kj8 (fun k_ => some k_ = (.slice Ao17 t252.length co17 : Value).ownBlock) (.slice Ao17 t252.length co17) t252 1 t266 t267 w _ ?side1 ?side2 A37.out).mono ?_); (case side1 => repeat (first | (with_reducible first | exact HB.out | apply zc | apply za | apply zb | refine zh ?_ GE251.out | refine zh ?_ GE260.out) | exact HB.out)); (case side2 => exact Kd.R_tight rfl HO_8.out); rintro e w42 ⟨rfl, hy0, hb, hkp⟩; refine ⟨_, rfl, ?_⟩; replace HO_252001 := zp.mk (Kd.R_mono (ok' := fun k_ => some k_ ≠ (.slice Ao22 t256.length co22 : Value).ownBlock) (Kd.R_keptB ((Kd.R_apart' HO_252001.out (Kd.R_typed HO_8.out) (by decide))) hkp (fun k_ hk_ hs_ => (hk_.2) hs_)) (fun k_ hk_ => hk_.1.1)); replace HO_261001 := zp.mk (Kd.R_mono (ok' := fun k_ => some k_ ≠ (.slice Ao15 t247.length co15 : Value).ownBlock) (Kd.R_keptB ((Kd.R_apart' HO_261001.out (Kd.R_typed HO_8.out) (by decide))) hkp (fun k_ hk_ hs_ => (hk_.2) hs_)) (fun k_ hk_ => hk_.1.1)); replace BK251 := zp.mk (blk_kept (zv8 BK251.out) hkp (fun hs_ => (fun e_ => (Kd.R_ne HO_8.out BK251.out (by decide)) e_) hs_)); replace BK260 := zp.mk (blk_kept (zv8 BK260.out) hkp (fun hs_ => (fun e_ => (Kd.R_ne HO_8.out BK260.out (by decide)) e_) hs_)); replace HO_8 := zp.mk (Kd.R_reok rfl hy0 (fun k_ e_ => HO_8.out.1 k_ e_)); replace HO264 := zp.mk (Kd.R_mono (ok' := fun k_ => some k_ ≠ (.slice Ao17 t252.length co17 : Value).ownBlock) (Kd.R_keptB (HO264.out) hkp (fun k_ hk_ hs_ => (hk_.2) hs_)) (fun k_ hk_ => hk_.1.2)); replace HB := zp.mk (hb); (try clear hb); (try clear hkp); (try clear hy0)))
      (try simp only [Act.put, zs1, zs2, zs3])
      go_cut [65] (fun v65 wc => ∃ (kq : Nat) (x65_37 : Bool), v65 = .bool x65_37 ∧ zp (laws_FnExactLatOf.j1 kq a0 l1 t250 x65_37 t246 t247 t255 t256 = some r) ∧ zp (kq ≤ kj8) ∧ zp (Kd.R (Kd.int .u64) 76 wc w.heap.size (fun k_ => some k_ ≠ ((.slice Ao22 t256.length co22) : Value).ownBlock) (.slice Ao15 t247.length co15) t247) ∧ zp (Kd.R (Kd.int .u64) 76 wc w.heap.size (fun k_ => some k_ ≠ ((.slice Ao15 t247.length co15) : Value).ownBlock) (.slice Ao22 t256.length co22) t256) ∧ zp (wc.heap[gb251]? = some (.cells #[.int .i64 t246, (.slice Ao15 t247.length co15)] 27 (0, 0))) ∧ zp (wc.heap[gb260]? = some (.cells #[.int .i64 t255, (.slice Ao22 t256.length co22)] 27 (0, 0))) ∧ zp (Below w.heap.size w wc))
      case first =>
       have H := HC38.out
       clear HC38
       by_cases c43 : t266 < 0
       ·rw [if_pos c43] at H
        have c43b0 : decide (t266 < 0) = true := decide_eq_true c43
        clear c43
        (first | rw [c43b0] | (simp only [i64_w, i32_w]; rw [c43b0]) | skip)
        have H' := zp.mk H
        clear H
        go_wp2
        go_meet
        case rel => exact ⟨_, (true), (by first | rfl | (simp; done) | (simp [*]; done)), H', ⟨by have := HJ8.out; first | omega | exact Nat.le_refl _⟩, ⟨by (with_reducible repeat (first | apply Kd.R_alloc | apply Kd.R_drewN | apply Kd.R_drew)); exact HO_252001.out⟩, ⟨by (with_reducible repeat (first | apply Kd.R_alloc | apply Kd.R_drewN | apply Kd.R_drew)); exact HO_261001.out⟩, ⟨zv8 BK251.out⟩, ⟨zv8 BK260.out⟩, ⟨zv7 HB.out⟩⟩
       ·rw [if_neg c43] at H
        have c43b0 : decide (t266 < 0) = false := decide_eq_false c43
        clear c43
        (first | rw [c43b0] | (simp only [i64_w, i32_w]; rw [c43b0]) | skip)
        replace H := zs4 H
        obtain ⟨t268, A440, H⟩ := H
        replace H : (if t268 = true then (laws_FnExactLatOf.j1 kj8 a0 l1 t250 (t259 != t250) t246 t247 t255 t256) else (laws_FnExactLatOf.j1 kj8 a0 l1 t250 true t246 t247 t255 t256)) = some r := H
        have A44 := zp.mk A440
        clear A440
        by_cases c45 : t268 = true
        ·subst c45
         have H1 : (laws_FnExactLatOf.j1 kj8 a0 l1 t250 (t259 != t250) t246 t247 t255 t256) = some r := by rw [if_pos rfl] at H; exact H
         clear H
         have H := H1
         clear H1
         have H' := zp.mk H
         clear H
         have hnb46 := NB260_251.out
         have hnc46 := NB251_260.out
         have y47_0 := zt0 BK260.out
         have y47_1 := zt1 BK260.out
         have u47_0 := zd BK260.out 0
         have u47_1 := zd BK260.out 1
         have y48_0 := zt0 BK251.out
         have y48_1 := zt1 BK251.out
         have u48_0 := zd BK251.out 0
         have u48_1 := zd BK251.out 1
         go_wp2_with (first | (go_at_call 21; (with_reducible refine (laws_eqLat.calls kj8 t255 _ _ t256 t246 _ _ t247 true _ ?side1 ?side2 ?side3 ?side4 A44.out).mono ?_); (case side1 => repeat (first | exact (Kd.R_reads' HO_261001.out).2.2 | (with_reducible refine Kd.zr ?_ _) | (with_reducible refine Kd.zq ?_ _) | (with_reducible refine Kd.C_drew ?_))); (case side2 => exact (Kd.R_reads' HO_261001.out).2.1); (case side3 => repeat (first | exact (Kd.R_reads' HO_252001.out).2.2 | (with_reducible refine Kd.zr ?_ _) | (with_reducible refine Kd.zq ?_ _) | (with_reducible refine Kd.C_drew ?_))); (case side4 => exact (Kd.R_reads' HO_252001.out).2.1); rintro e w49 ⟨rfl, hb⟩; replace HO_8 := zp.mk (Kd.R_below (by (with_reducible repeat (first | apply Kd.R_alloc | apply Kd.R_drewN | apply Kd.R_drew)); exact HO_8.out) hb); replace HO_252001 := zp.mk (Kd.R_below (by (with_reducible repeat (first | apply Kd.R_alloc | apply Kd.R_drewN | apply Kd.R_drew)); exact HO_252001.out) hb); replace HO_261001 := zp.mk (Kd.R_below (by (with_reducible repeat (first | apply Kd.R_alloc | apply Kd.R_drewN | apply Kd.R_drew)); exact HO_261001.out) hb); replace HO264 := zp.mk (Kd.R_below (by (with_reducible repeat (first | apply Kd.R_alloc | apply Kd.R_drewN | apply Kd.R_drew)); exact HO264.out) hb); replace BK251 := zp.mk (zl (zv8 BK251.out) hb); replace BK260 := zp.mk (zl (zv8 BK260.out) hb); replace HB := zp.mk (zj (zv7 HB.out) hb); (try clear hb); (try clear hb2); (try clear hk); (try clear hi)))
         go_meet
         case rel => exact ⟨_, ((t259 != t250)), (by first | rfl | (simp; done) | (simp [*]; done)), H', ⟨by have := HJ8.out; first | omega | exact Nat.le_refl _⟩, ⟨by (with_reducible repeat (first | apply Kd.R_alloc | apply Kd.R_drewN | apply Kd.R_drew)); exact HO_252001.out⟩, ⟨by (with_reducible repeat (first | apply Kd.R_alloc | apply Kd.R_drewN | apply Kd.R_drew)); exact HO_261001.out⟩, ⟨zv8 BK251.out⟩, ⟨zv8 BK260.out⟩, ⟨zv7 HB.out⟩⟩
        ·replace c45 := Bool.eq_false_iff.mpr c45
         subst c45
         have H1 : (laws_FnExactLatOf.j1 kj8 a0 l1 t250 true t246 t247 t255 t256) = some r := by rw [if_neg (show ¬ (false = true) by decide)] at H; exact H
         clear H
         have H := H1
         clear H1
         have H' := zp.mk H
         clear H
         have hnb50 := NB260_251.out
         have hnc50 := NB251_260.out
         have y51_0 := zt0 BK260.out
         have y51_1 := zt1 BK260.out
         have u51_0 := zd BK260.out 0
         have u51_1 := zd BK260.out 1
         have y52_0 := zt0 BK251.out
         have y52_1 := zt1 BK251.out
         have u52_0 := zd BK251.out 0
         have u52_1 := zd BK251.out 1
         go_wp2_with (first | (go_at_call 21; (with_reducible refine (laws_eqLat.calls kj8 t255 _ _ t256 t246 _ _ t247 false _ ?side1 ?side2 ?side3 ?side4 A44.out).mono ?_); (case side1 => repeat (first | exact (Kd.R_reads' HO_261001.out).2.2 | (with_reducible refine Kd.zr ?_ _) | (with_reducible refine Kd.zq ?_ _) | (with_reducible refine Kd.C_drew ?_))); (case side2 => exact (Kd.R_reads' HO_261001.out).2.1); (case side3 => repeat (first | exact (Kd.R_reads' HO_252001.out).2.2 | (with_reducible refine Kd.zr ?_ _) | (with_reducible refine Kd.zq ?_ _) | (with_reducible refine Kd.C_drew ?_))); (case side4 => exact (Kd.R_reads' HO_252001.out).2.1); rintro e w53 ⟨rfl, hb⟩; replace HO_8 := zp.mk (Kd.R_below (by (with_reducible repeat (first | apply Kd.R_alloc | apply Kd.R_drewN | apply Kd.R_drew)); exact HO_8.out) hb); replace HO_252001 := zp.mk (Kd.R_below (by (with_reducible repeat (first | apply Kd.R_alloc | apply Kd.R_drewN | apply Kd.R_drew)); exact HO_252001.out) hb); replace HO_261001 := zp.mk (Kd.R_below (by (with_reducible repeat (first | apply Kd.R_alloc | apply Kd.R_drewN | apply Kd.R_drew)); exact HO_261001.out) hb); replace HO264 := zp.mk (Kd.R_below (by (with_reducible repeat (first | apply Kd.R_alloc | apply Kd.R_drewN | apply Kd.R_drew)); exact HO264.out) hb); replace BK251 := zp.mk (zl (zv8 BK251.out) hb); replace BK260 := zp.mk (zl (zv8 BK260.out) hb); replace HB := zp.mk (zj (zv7 HB.out) hb); (try clear hb); (try clear hb2); (try clear hk); (try clear hi)))
         go_meet
         case rel => exact ⟨_, (true), (by first | rfl | (simp; done) | (simp [*]; done)), H', ⟨by have := HJ8.out; first | omega | exact Nat.le_refl _⟩, ⟨by (with_reducible repeat (first | apply Kd.R_alloc | apply Kd.R_drewN | apply Kd.R_drew)); exact HO_252001.out⟩, ⟨by (with_reducible repeat (first | apply Kd.R_alloc | apply Kd.R_drewN | apply Kd.R_drew)); exact HO_261001.out⟩, ⟨zv8 BK251.out⟩, ⟨zv8 BK260.out⟩, ⟨zv7 HB.out⟩⟩
      case rest =>
       clear HC38
       try clear c1
       try clear c2
       try clear p2
       try clear c3
       try clear c4
       try clear c4b0
       try clear c5
       try clear c11
       try clear c20
       try clear c21
       try clear c24
       try clear c25
       try clear c29
       try clear c33
       try clear c36
       try clear c41
       try clear c42
       try clear c43
       try clear c43b0
       try clear c44
       try clear c45
       try clear c46
       try clear c47
       try clear c50
       try clear y14_0
       try clear y14_1
       try clear y21_0
       try clear y21_1
       try clear y26_0
       try clear y26_1
       try clear y27_0
       try clear y27_1
       try clear y30_0
       try clear y30_1
       try clear y31_0
       try clear y31_1
       try clear y47_0
       try clear y47_1
       try clear y48_0
       try clear y48_1
       try clear y51_0
       try clear y51_1
       try clear y52_0
       try clear y52_1
       try clear u14_0
       try clear u14_1
       try clear u21_0
       try clear u21_1
       try clear u26_0
       try clear u26_1
       try clear u27_0
       try clear u27_1
       try clear u30_0
       try clear u30_1
       try clear u31_0
       try clear u31_1
       try clear u47_0
       try clear u47_1
       try clear u48_0
       try clear u48_1
       try clear u51_0
       try clear u51_1
       try clear u52_0
       try clear u52_1
       try clear p2
       obtain ⟨kq, x65_37, rfl, HA, HJ37, HO_252001, HO_261001, BK251, BK260, HB⟩ := hcut
       cases kq with
       | zero => exact absurd HA.out (by simp [laws_FnExactLatOf.j1])
       | succ kj37 =>
        have H := HA.out
        clear HA
        simp only [laws_FnExactLatOf.j1] at H
        by_cases c54 : x65_37 = true
        ·subst c54
         have H1 : (some false) = some r := by rw [if_pos rfl] at H; exact H
         clear H
         have H := H1
         clear H1
         exact absurd ((Option.some.inj H).trans hr_) (by decide)
        ·replace c54 := Bool.eq_false_iff.mpr c54
         subst c54
         have H1 : ((laws_markLat.f kj37 t255 t256 1).bind fun bt269 => ((laws_heldLat.f kj37 t255 bt269.2 1).bind fun t271 => (if t271 < 0 then (some false) else (if t271 = bt269.1 then ((laws_toEdgeS.f kj37 l1).bind fun t272 => ((impl_LatOf.f kj37 a0 t272).bind fun bt275 => ((laws_eqLat.f kj37 bt275.1 bt275.2.1 t246 t247).bind fun t281 => (if t281 = true then (laws_FnExactLatOf.j2 kj37 bt269.1 (bt275.2.2 != t250) t255 bt269.2) else (laws_FnExactLatOf.j2 kj37 bt269.1 true t255 bt269.2))))) else (some false))))) = some r := by rw [if_neg (show ¬ (false = true) by decide)] at H; exact H
         clear H
         have H := H1
         clear H1
         replace H := zs4 H
         obtain ⟨⟨t269, t270⟩, A550, H⟩ := H
         replace H : ((laws_heldLat.f kj37 t255 t270 1).bind fun t271 => (if t271 < 0 then (some false) else (if t271 = t269 then ((laws_toEdgeS.f kj37 l1).bind fun t272 => ((impl_LatOf.f kj37 a0 t272).bind fun bt275 => ((laws_eqLat.f kj37 bt275.1 bt275.2.1 t246 t247).bind fun t281 => (if t281 = true then (laws_FnExactLatOf.j2 kj37 t269 (bt275.2.2 != t250) t255 t270) else (laws_FnExactLatOf.j2 kj37 t269 true t255 t270))))) else (some false)))) = some r := H
         have A55 := zp.mk A550
         clear A550
         replace H := zs4 H
         obtain ⟨t271, A560, H⟩ := H
         replace H : (if t271 < 0 then (some false) else (if t271 = t269 then ((laws_toEdgeS.f kj37 l1).bind fun t272 => ((impl_LatOf.f kj37 a0 t272).bind fun bt275 => ((laws_eqLat.f kj37 bt275.1 bt275.2.1 t246 t247).bind fun t281 => (if t281 = true then (laws_FnExactLatOf.j2 kj37 t269 (bt275.2.2 != t250) t255 t270) else (laws_FnExactLatOf.j2 kj37 t269 true t255 t270))))) else (some false))) = some r := H
         have A56 := zp.mk A560
         clear A560
         by_cases c57 : t271 < 0
         ·rw [if_pos c57] at H
          have c57b0 : decide (t271 < 0) = true := decide_eq_true c57
          clear c57
          exact absurd ((Option.some.inj H).trans hr_) (by decide)
         ·rw [if_neg c57] at H
          have c57b0 : decide (t271 < 0) = false := decide_eq_false c57
          clear c57
          by_cases c58 : t271 = t269
          ·rw [if_pos c58] at H
           have c58b0 : (t271 == t269) = true := beq_iff_eq.mpr c58
           have c58b1 : (t271 != t269) = false := bne_eq_false_iff_eq.mpr c58
           clear c58
           replace H := zs4 H
           obtain ⟨t272, A590, H⟩ := H
           replace H : ((impl_LatOf.f kj37 a0 t272).bind fun bt275 => ((laws_eqLat.f kj37 bt275.1 bt275.2.1 t246 t247).bind fun t281 => (if t281 = true then (laws_FnExactLatOf.j2 kj37 t269 (bt275.2.2 != t250) t255 t270) else (laws_FnExactLatOf.j2 kj37 t269 true t255 t270)))) = some r := H
           have A59 := zp.mk A590
           clear A590
           replace H := zs4 H
           obtain ⟨⟨t275, t276, t279⟩, A600, H⟩ := H
           replace H : ((laws_eqLat.f kj37 t275 t276 t246 t247).bind fun t281 => (if t281 = true then (laws_FnExactLatOf.j2 kj37 t269 (t279 != t250) t255 t270) else (laws_FnExactLatOf.j2 kj37 t269 true t255 t270))) = some r := H
           have A60 := zp.mk A600
           clear A600
           have HC61 := zp.mk H
           clear H
           have hnb62 := NB260_251.out
           have hnc62 := NB251_260.out
           have y63_0 := zt0 BK260.out
           have y63_1 := zt1 BK260.out
           have u63_0 := zd BK260.out 0
           have u63_1 := zd BK260.out 1
           go_upto_region 25 with (first | ((with_reducible refine zn (f := 33) rfl ?_); refine goesL_ (some 68) rfl rfl Try.func33 (by kernel_rfl) rfl #[.agg #[.int .i64 t255, .slice Ao22 t256.length co22], .int .i64 1] rfl (by (try simp only [List.map_toArray, List.map_cons, List.map_nil]); first | done | rfl | (simp only [List.length_drop, List.length_take]; rfl)) ?_; (with_reducible refine (laws_markLat.calls kj37 t255 (fun k_ => some k_ = (.slice Ao22 t256.length co22 : Value).ownBlock) (.slice Ao22 t256.length co22) t256 1 t269 t270 w _ ?side1 ?side2 A55.out).mono ?_); (case side1 => repeat (first | (with_reducible first | exact HB.out | apply zc | apply za | apply zb | refine zh ?_ GE251.out | refine zh ?_ GE260.out) | exact HB.out)); (case side2 => exact Kd.R_tight rfl HO_261001.out); rintro e w64 ⟨rfl, hy0, hb, hkp⟩; refine ⟨_, rfl, ?_⟩; replace HO_252001 := zp.mk (Kd.R_mono (ok' := fun k_ => some k_ ≠ (.slice Ao22 t256.length co22 : Value).ownBlock) (Kd.R_keptB (HO_252001.out) hkp (fun k_ hk_ hs_ => (hk_) hs_)) (fun k_ hk_ => hk_.1)); replace BK251 := zp.mk (blk_kept (zv8 BK251.out) hkp (fun hs_ => (fun e_ => (Kd.R_ne HO_261001.out BK251.out (by decide)) e_) hs_)); replace BK260 := zp.mk (blk_kept (zv8 BK260.out) hkp (fun hs_ => (fun e_ => (Kd.R_ne HO_261001.out BK260.out (by decide)) e_) hs_)); replace HO_261001 := zp.mk (Kd.R_reok rfl hy0 (fun k_ e_ => HO_261001.out.1 k_ e_)); replace HB := zp.mk (hb); (try clear hb); (try clear hkp); (try clear hy0); have y65_0 := zt0 BK260.out; have y65_1 := zt1 BK260.out; have u65_0 := zd BK260.out 0; have u65_1 := zd BK260.out 1) | ((with_reducible refine zn (f := 48) rfl ?_); refine goesL_ (some 71) rfl rfl Try.func48 (by kernel_rfl) rfl #[.agg #[.int .i64 t255, .slice Ao22 t270.length co22], .int .i64 1] rfl (by (try simp only [List.map_toArray, List.map_cons, List.map_nil]); first | done | (rw [show t270.length = t256.length from (Kd.R_reads' HO_261001.out).1.symm] <;> rfl) | rfl | (simp only [List.length_drop, List.length_take]; rfl)) ?_; (with_reducible refine (laws_heldLat.calls kj37 t255 _ _ t270 1 t271 _ ?side1 ?side2 A56.out).mono ?_); (case side1 => repeat (first | exact (Kd.R_reads' HO_261001.out).2.2 | (with_reducible refine Kd.zr ?_ _) | (with_reducible refine Kd.zq ?_ _) | (with_reducible refine Kd.C_drew ?_))); (case side2 => rw [show t270.length = t256.length from (Kd.R_reads' HO_261001.out).1.symm]; exact (Kd.R_reads' HO_261001.out).2.1); rintro e w66 ⟨rfl, hb⟩; refine ⟨_, rfl, ?_⟩; replace HO_252001 := zp.mk (Kd.R_below (by (with_reducible repeat (first | apply Kd.R_alloc | apply Kd.R_drewN | apply Kd.R_drew)); exact HO_252001.out) hb); replace HO_261001 := zp.mk (Kd.R_below (by (with_reducible repeat (first | apply Kd.R_alloc | apply Kd.R_drewN | apply Kd.R_drew)); exact HO_261001.out) hb); replace BK251 := zp.mk (zl (zv8 BK251.out) hb); replace BK260 := zp.mk (zl (zv8 BK260.out) hb); replace HB := zp.mk (zj (zv7 HB.out) hb); (try clear hb); (try clear hb2); (try clear hk); (try clear hi)) | ((with_reducible refine zn (f := 46) rfl ?_); refine goesL_ (some 80) rfl rfl Try.func46 (by kernel_rfl) rfl #[.slice A1 l1.length c1] rfl (by (try simp only [List.map_toArray, List.map_cons, List.map_nil]); first | done | rfl | (simp only [List.length_drop, List.length_take]; rfl)) ?_; (with_reducible refine (laws_toEdgeS.calls kj37 _ _ l1 t272 _ ?side1 ?side2 A59.out).mono ?_); (case side1 => repeat (first | exact (Kd.zs HR1.out HB.out) | (with_reducible refine Kd.zr ?_ _) | (with_reducible refine Kd.zq ?_ _) | (with_reducible refine Kd.C_drew ?_))); (case side2 => exact HC1.out); rintro e w67 ⟨v273, rfl, ho0, hb⟩; refine ⟨_, rfl, ?_⟩; have HO274 := zp.mk (Kd.R_lower ho0 (zk (zv7 HB.out))); replace HO_252001 := zp.mk (Kd.R_below (by (with_reducible repeat (first | apply Kd.R_alloc | apply Kd.R_drewN | apply Kd.R_drew)); exact HO_252001.out) hb); replace HO_261001 := zp.mk (Kd.R_below (by (with_reducible repeat (first | apply Kd.R_alloc | apply Kd.R_drewN | apply Kd.R_drew)); exact HO_261001.out) hb); replace BK251 := zp.mk (zl (zv8 BK251.out) hb); replace BK260 := zp.mk (zl (zv8 BK260.out) hb); replace HB := zp.mk (zj (zv7 HB.out) hb); (try clear hb); (try clear hb2); (try clear hk); (try clear hi); (try clear ho0); obtain ⟨Ao68, co68, eo68⟩ := Kd.R_slice HO274.out; subst eo68) | ((with_reducible refine zn (f := 47) rfl ?_); refine goesL_ (some 81) rfl rfl Try.func47 (by kernel_rfl) rfl #[.int .i64 a0, .slice Ao68 t272.length co68] rfl (by (try simp only [List.map_toArray, List.map_cons, List.map_nil]); first | done | rfl | (simp only [List.length_drop, List.length_take]; rfl)) ?_; (with_reducible refine (impl_LatOf.calls kj37 a0 _ _ t272 t275 t276 t279 _ ?side1 ?side2 A60.out).mono ?_); (case side1 => repeat (first | exact (Kd.R_reads' HO274.out).2.2 | (with_reducible refine Kd.zr ?_ _) | (with_reducible refine Kd.zq ?_ _) | (with_reducible refine Kd.C_drew ?_))); (case side2 => exact (Kd.R_reads' HO274.out).2.1); rintro e w69 ⟨v277, rfl, ho0, hb⟩; refine ⟨_, rfl, ?_⟩; have HO278 := zp.mk (Kd.R_lower (Kd.R_new' (Kd.R_new' ho0 (Kd.R_lt (by (with_reducible repeat (first | apply Kd.R_alloc | apply Kd.R_drewN | apply Kd.R_drew)); exact HO_252001.out))) (Kd.R_lt (by (with_reducible repeat (first | apply Kd.R_alloc | apply Kd.R_drewN | apply Kd.R_drew)); exact HO_261001.out))) (zk (zv7 HB.out))); replace HO_252001 := zp.mk (Kd.R_elder' (by (with_reducible repeat (first | apply Kd.R_alloc | apply Kd.R_drewN | apply Kd.R_drew)); exact HO_252001.out) (Kd.R_base ho0) hb); replace HO_261001 := zp.mk (Kd.R_elder' (by (with_reducible repeat (first | apply Kd.R_alloc | apply Kd.R_drewN | apply Kd.R_drew)); exact HO_261001.out) (Kd.R_base ho0) hb); replace HO274 := zp.mk (Kd.R_below (by (with_reducible repeat (first | apply Kd.R_alloc | apply Kd.R_drewN | apply Kd.R_drew)); exact HO274.out) hb); replace BK251 := zp.mk (zl (zv8 BK251.out) hb); replace BK260 := zp.mk (zl (zv8 BK260.out) hb); replace HB := zp.mk (zj (zv7 HB.out) hb); (try clear hb); (try clear hb2); (try clear hk); (try clear hi); (try clear ho0)) | ((with_reducible refine zo (N := 14) rfl ?_); refine zm ?hg (N := 14) ?hd (cs := #[.int .i64 0, .slice none 0 0]) (t := 27) ?hr ?_; (case hd => rfl); (case hg => rfl); (case hr => first | (go_simp; done) | (go_simp; rfl)); intro gb280 hg w70 hbox hb; have BK280 := zp.mk (hbox); have GW280 := zp.mk ((zv3 (zv7 HB.out) hg)); have GE280 := zp.mk ((zv3 (zv7 HB.out) hg)); have NB251_280 := zp.mk ((by rw [hg]; exact Nat.ne_of_lt (blk_lt (g := gb251) (o := .cells #[.int .i64 t246, .slice Ao15 t247.length co15] 27 (0, 0)) (zv8 BK251.out)) : gb251 ≠ gb280)); have NB280_251 := zp.mk ((by rw [hg]; exact Nat.ne_of_gt (blk_lt (g := gb251) (o := .cells #[.int .i64 t246, .slice Ao15 t247.length co15] 27 (0, 0)) (zv8 BK251.out)) : gb280 ≠ gb251)); have NB260_280 := zp.mk ((by rw [hg]; exact Nat.ne_of_lt (blk_lt (g := gb260) (o := .cells #[.int .i64 t255, .slice Ao22 t256.length co22] 27 (0, 0)) (zv8 BK260.out)) : gb260 ≠ gb280)); have NB280_260 := zp.mk ((by rw [hg]; exact Nat.ne_of_gt (blk_lt (g := gb260) (o := .cells #[.int .i64 t255, .slice Ao22 t256.length co22] 27 (0, 0)) (zv8 BK260.out)) : gb280 ≠ gb260)); replace HO_252001 := zp.mk (Kd.R_below (by (with_reducible repeat (first | apply Kd.R_alloc | apply Kd.R_drewN | apply Kd.R_drew)); exact HO_252001.out) hb); replace HO_261001 := zp.mk (Kd.R_below (by (with_reducible repeat (first | apply Kd.R_alloc | apply Kd.R_drewN | apply Kd.R_drew)); exact HO_261001.out) hb); replace HO274 := zp.mk (Kd.R_below (by (with_reducible repeat (first | apply Kd.R_alloc | apply Kd.R_drewN | apply Kd.R_drew)); exact HO274.out) hb); replace HO278 := zp.mk (Kd.R_below (by (with_reducible repeat (first | apply Kd.R_alloc | apply Kd.R_drewN | apply Kd.R_drew)); exact HO278.out) hb); replace BK251 := zp.mk (zl (zv8 BK251.out) hb); replace BK260 := zp.mk (zl (zv8 BK260.out) hb); replace HB := zp.mk (zj (zv7 HB.out) hb); clear hb hbox hg; have hnb71 := NB280_251.out; have hnc71 := NB251_280.out; have hnb72 := NB280_260.out; have hnc72 := NB260_280.out; have y73_0 := zt0 BK280.out; have y73_1 := zt1 BK280.out; have u73_0 := zd BK280.out 0; have u73_1 := zd BK280.out 1; obtain ⟨Ao74, co74, eo74⟩ := Kd.R_slice HO278.out; subst eo74))
           (try simp only [Act.put, zs1, zs2, zs3])
           go_cut [92] (fun v92 wc => ∃ (kq : Nat) (x92_60 : Bool), v92 = .bool x92_60 ∧ zp (laws_FnExactLatOf.j2 kq t269 x92_60 t255 t270 = some r) ∧ zp (kq ≤ kj37) ∧ zp (Kd.R (Kd.int .u64) 76 wc w.heap.size (fun k_ => some k_ ≠ ((.slice Ao22 t256.length co22) : Value).ownBlock ∧ some k_ ≠ ((.slice Ao74 t276.length co74) : Value).ownBlock) (.slice Ao15 t247.length co15) t247) ∧ zp (Kd.R (Kd.int .u64) 76 wc w.heap.size (fun k_ => some k_ ≠ ((.slice Ao15 t247.length co15) : Value).ownBlock ∧ some k_ ≠ ((.slice Ao74 t276.length co74) : Value).ownBlock) (.slice Ao22 t256.length co22) t270) ∧ zp (Kd.R (Kd.int .u64) 76 wc w.heap.size (fun k_ => some k_ ≠ ((.slice Ao15 t247.length co15) : Value).ownBlock ∧ some k_ ≠ ((.slice Ao22 t256.length co22) : Value).ownBlock) (.slice Ao74 t276.length co74) t276) ∧ zp (wc.heap[gb251]? = some (.cells #[.int .i64 t246, (.slice Ao15 t247.length co15)] 27 (0, 0))) ∧ zp (wc.heap[gb260]? = some (.cells #[.int .i64 t255, (.slice Ao22 t256.length co22)] 27 (0, 0))) ∧ zp (wc.heap[gb280]? = some (.cells #[.int .i64 t275, (.slice Ao74 t276.length co74)] 27 (0, 0))) ∧ zp (Below w.heap.size w wc))
           case first =>
            have H := HC61.out
            clear HC61
            replace H := zs4 H
            obtain ⟨t281, A750, H⟩ := H
            replace H : (if t281 = true then (laws_FnExactLatOf.j2 kj37 t269 (t279 != t250) t255 t270) else (laws_FnExactLatOf.j2 kj37 t269 true t255 t270)) = some r := H
            have A75 := zp.mk A750
            clear A750
            by_cases c76 : t281 = true
            ·subst c76
             have H1 : (laws_FnExactLatOf.j2 kj37 t269 (t279 != t250) t255 t270) = some r := by rw [if_pos rfl] at H; exact H
             clear H
             have H := H1
             clear H1
             have H' := zp.mk H
             clear H
             have hnb77 := NB280_251.out
             have hnc77 := NB251_280.out
             have hnb78 := NB280_260.out
             have hnc78 := NB260_280.out
             have y79_0 := zt0 BK280.out
             have y79_1 := zt1 BK280.out
             have u79_0 := zd BK280.out 0
             have u79_1 := zd BK280.out 1
             have hnb80 := NB251_260.out
             have hnc80 := NB260_251.out
             have y81_0 := zt0 BK251.out
             have y81_1 := zt1 BK251.out
             have u81_0 := zd BK251.out 0
             have u81_1 := zd BK251.out 1
             go_wp2_with (first | ((with_reducible refine zn (f := 21) rfl ?_); refine goesL_ (some 86) rfl rfl Try.func21 (by kernel_rfl) rfl #[.agg #[.int .i64 t275, .slice Ao74 t276.length co74], .agg #[.int .i64 t246, .slice Ao15 t247.length co15]] rfl (by (try simp only [List.map_toArray, List.map_cons, List.map_nil]); first | done | rfl | (simp only [List.length_drop, List.length_take]; rfl)) ?_; (with_reducible refine (laws_eqLat.calls kj37 t275 _ _ t276 t246 _ _ t247 true _ ?side1 ?side2 ?side3 ?side4 A75.out).mono ?_); (case side1 => refine (Kd.R_reads' (e := 76) (base := w.heap.size) (ok := fun k_ => ((True ∧ some k_ ≠ (.slice Ao15 t247.length co15 : Value).ownBlock) ∧ some k_ ≠ (.slice Ao22 t256.length co22 : Value).ownBlock)) (n := t276.length) (c := co74) ?_).2.2; exact (by (with_reducible repeat (first | apply Kd.R_alloc | apply Kd.R_drewN | apply Kd.R_drew)); exact (Kd.R_mono (Kd.R_far (p := ⟨gb280, 1, none⟩) (Kd.R_far (p := ⟨gb280, 0, none⟩) (Kd.R_types HO278.out BK280.out (by decide)) (fun _ hk => hk.2) (.int .i64 t275)) (fun _ hk => hk.2) (.slice Ao74 t276.length co74)) (fun _ h_ => h_.1)))); (case side2 => exact (Kd.R_reads' HO278.out).2.1); (case side3 => refine (Kd.R_reads' (e := 76) (base := w.heap.size) (ok := fun k_ => (some k_ ≠ (.slice Ao22 t256.length co22 : Value).ownBlock ∧ some k_ ≠ (.slice Ao74 t276.length co74 : Value).ownBlock)) (n := t247.length) (c := co15) ?_).2.2; exact (by (with_reducible repeat (first | apply Kd.R_alloc | apply Kd.R_drewN | apply Kd.R_drew)); exact (Kd.R_mono (Kd.R_far (p := ⟨gb280, 1, none⟩) (Kd.R_far (p := ⟨gb280, 0, none⟩) (Kd.R_types HO_252001.out BK280.out (by decide)) (fun _ hk => hk.2) (.int .i64 t275)) (fun _ hk => hk.2) (.slice Ao74 t276.length co74)) (fun _ h_ => h_.1)))); (case side4 => exact (Kd.R_reads' HO_252001.out).2.1); rintro e w82 ⟨rfl, hb⟩; refine ⟨_, rfl, ?_⟩; replace HO_252001 := zp.mk (Kd.R_below (by (with_reducible repeat (first | apply Kd.R_alloc | apply Kd.R_drewN | apply Kd.R_drew)); exact (Kd.R_mono (Kd.R_far (p := ⟨gb280, 1, none⟩) (Kd.R_far (p := ⟨gb280, 0, none⟩) (Kd.R_types HO_252001.out BK280.out (by decide)) (fun _ hk => hk.2) (.int .i64 t275)) (fun _ hk => hk.2) (.slice Ao74 t276.length co74)) (fun _ h_ => h_.1))) hb); replace HO_261001 := zp.mk (Kd.R_below (by (with_reducible repeat (first | apply Kd.R_alloc | apply Kd.R_drewN | apply Kd.R_drew)); exact (Kd.R_mono (Kd.R_far (p := ⟨gb280, 1, none⟩) (Kd.R_far (p := ⟨gb280, 0, none⟩) (Kd.R_types HO_261001.out BK280.out (by decide)) (fun _ hk => hk.2) (.int .i64 t275)) (fun _ hk => hk.2) (.slice Ao74 t276.length co74)) (fun _ h_ => h_.1))) hb); replace HO274 := zp.mk (Kd.R_below (by (with_reducible repeat (first | apply Kd.R_alloc | apply Kd.R_drewN | apply Kd.R_drew)); exact (Kd.R_mono (Kd.R_far (p := ⟨gb280, 1, none⟩) (Kd.R_far (p := ⟨gb280, 0, none⟩) (Kd.R_types HO274.out BK280.out (by decide)) (fun _ hk => hk.2) (.int .i64 t275)) (fun _ hk => hk.2) (.slice Ao74 t276.length co74)) (fun _ h_ => h_.1))) hb); replace HO278 := zp.mk (Kd.R_below (by (with_reducible repeat (first | apply Kd.R_alloc | apply Kd.R_drewN | apply Kd.R_drew)); exact (Kd.R_mono (Kd.R_far (p := ⟨gb280, 1, none⟩) (Kd.R_far (p := ⟨gb280, 0, none⟩) (Kd.R_types HO278.out BK280.out (by decide)) (fun _ hk => hk.2) (.int .i64 t275)) (fun _ hk => hk.2) (.slice Ao74 t276.length co74)) (fun _ h_ => h_.1))) hb); replace BK251 := zp.mk (zl (g := gb251) (o := .cells #[.int .i64 t246, .slice Ao15 t247.length co15] 27 (0, 0)) (by (with_reducible repeat (first | refine zf ?_ _ | refine zi ?_ | refine zg ?_ _)); refine blk_far ?_ NB251_280.out _; (with_reducible repeat (first | refine zf ?_ _ | refine zi ?_ | refine zg ?_ _)); refine blk_far ?_ NB251_280.out _; (with_reducible repeat (first | refine zf ?_ _ | refine zi ?_ | refine zg ?_ _)); exact BK251.out) hb); replace BK260 := zp.mk (zl (g := gb260) (o := .cells #[.int .i64 t255, .slice Ao22 t256.length co22] 27 (0, 0)) (by (with_reducible repeat (first | refine zf ?_ _ | refine zi ?_ | refine zg ?_ _)); refine blk_far ?_ NB260_280.out _; (with_reducible repeat (first | refine zf ?_ _ | refine zi ?_ | refine zg ?_ _)); refine blk_far ?_ NB260_280.out _; (with_reducible repeat (first | refine zf ?_ _ | refine zi ?_ | refine zg ?_ _)); exact BK260.out) hb); replace BK280 := zp.mk (zl (g := gb280) (o := .cells #[.int .i64 t275, .slice Ao74 t276.length co74] 27 (0, 0)) (by (with_reducible repeat (first | refine zf ?_ _ | refine zi ?_ | refine zg ?_ _)); refine blk_put (cs := #[.int .i64 t275, .slice none 0 0]) ?_ 1 _ rfl; (with_reducible repeat (first | refine zf ?_ _ | refine zi ?_ | refine zg ?_ _)); refine blk_put (cs := #[.int .i64 0, .slice none 0 0]) ?_ 0 _ rfl; (with_reducible repeat (first | refine zf ?_ _ | refine zi ?_ | refine zg ?_ _)); exact BK280.out) hb); replace HB := zp.mk (zj (zv7 HB.out) hb); (try clear hb); (try clear hb2); (try clear hk); (try clear hi)))
             go_meet
             case rel => exact ⟨_, ((t279 != t250)), (by first | rfl | (simp; done) | (simp [*]; done)), H', ⟨by have := HJ8.out; have := HJ37.out; first | omega | exact Nat.le_refl _⟩, ⟨by (with_reducible repeat (first | apply Kd.R_alloc | apply Kd.R_drewN | apply Kd.R_drew)); exact HO_252001.out⟩, ⟨by (with_reducible repeat (first | apply Kd.R_alloc | apply Kd.R_drewN | apply Kd.R_drew)); exact HO_261001.out⟩, ⟨by (with_reducible repeat (first | apply Kd.R_alloc | apply Kd.R_drewN | apply Kd.R_drew)); exact Kd.R_mono HO278.out (fun _ hk => ⟨hk.1.2, hk.2⟩)⟩, ⟨zv8 BK251.out⟩, ⟨zv8 BK260.out⟩, ⟨zv8 BK280.out⟩, ⟨zv7 HB.out⟩⟩
            ·replace c76 := Bool.eq_false_iff.mpr c76
             subst c76
             have H1 : (laws_FnExactLatOf.j2 kj37 t269 true t255 t270) = some r := by rw [if_neg (show ¬ (false = true) by decide)] at H; exact H
             clear H
             have H := H1
             clear H1
             have H' := zp.mk H
             clear H
             have hnb83 := NB280_251.out
             have hnc83 := NB251_280.out
             have hnb84 := NB280_260.out
             have hnc84 := NB260_280.out
             have y85_0 := zt0 BK280.out
             have y85_1 := zt1 BK280.out
             have u85_0 := zd BK280.out 0
             have u85_1 := zd BK280.out 1
             have hnb86 := NB251_260.out
             have hnc86 := NB260_251.out
             have y87_0 := zt0 BK251.out
             have y87_1 := zt1 BK251.out
             have u87_0 := zd BK251.out 0
             have u87_1 := zd BK251.out 1
             go_wp2_with (first | ((with_reducible refine zn (f := 21) rfl ?_); refine goesL_ (some 86) rfl rfl Try.func21 (by kernel_rfl) rfl #[.agg #[.int .i64 t275, .slice Ao74 t276.length co74], .agg #[.int .i64 t246, .slice Ao15 t247.length co15]] rfl (by (try simp only [List.map_toArray, List.map_cons, List.map_nil]); first | done | rfl | (simp only [List.length_drop, List.length_take]; rfl)) ?_; (with_reducible refine (laws_eqLat.calls kj37 t275 _ _ t276 t246 _ _ t247 false _ ?side1 ?side2 ?side3 ?side4 A75.out).mono ?_); (case side1 => refine (Kd.R_reads' (e := 76) (base := w.heap.size) (ok := fun k_ => ((True ∧ some k_ ≠ (.slice Ao15 t247.length co15 : Value).ownBlock) ∧ some k_ ≠ (.slice Ao22 t256.length co22 : Value).ownBlock)) (n := t276.length) (c := co74) ?_).2.2; exact (by (with_reducible repeat (first | apply Kd.R_alloc | apply Kd.R_drewN | apply Kd.R_drew)); exact (Kd.R_mono (Kd.R_far (p := ⟨gb280, 1, none⟩) (Kd.R_far (p := ⟨gb280, 0, none⟩) (Kd.R_types HO278.out BK280.out (by decide)) (fun _ hk => hk.2) (.int .i64 t275)) (fun _ hk => hk.2) (.slice Ao74 t276.length co74)) (fun _ h_ => h_.1)))); (case side2 => exact (Kd.R_reads' HO278.out).2.1); (case side3 => refine (Kd.R_reads' (e := 76) (base := w.heap.size) (ok := fun k_ => (some k_ ≠ (.slice Ao22 t256.length co22 : Value).ownBlock ∧ some k_ ≠ (.slice Ao74 t276.length co74 : Value).ownBlock)) (n := t247.length) (c := co15) ?_).2.2; exact (by (with_reducible repeat (first | apply Kd.R_alloc | apply Kd.R_drewN | apply Kd.R_drew)); exact (Kd.R_mono (Kd.R_far (p := ⟨gb280, 1, none⟩) (Kd.R_far (p := ⟨gb280, 0, none⟩) (Kd.R_types HO_252001.out BK280.out (by decide)) (fun _ hk => hk.2) (.int .i64 t275)) (fun _ hk => hk.2) (.slice Ao74 t276.length co74)) (fun _ h_ => h_.1)))); (case side4 => exact (Kd.R_reads' HO_252001.out).2.1); rintro e w88 ⟨rfl, hb⟩; refine ⟨_, rfl, ?_⟩; replace HO_252001 := zp.mk (Kd.R_below (by (with_reducible repeat (first | apply Kd.R_alloc | apply Kd.R_drewN | apply Kd.R_drew)); exact (Kd.R_mono (Kd.R_far (p := ⟨gb280, 1, none⟩) (Kd.R_far (p := ⟨gb280, 0, none⟩) (Kd.R_types HO_252001.out BK280.out (by decide)) (fun _ hk => hk.2) (.int .i64 t275)) (fun _ hk => hk.2) (.slice Ao74 t276.length co74)) (fun _ h_ => h_.1))) hb); replace HO_261001 := zp.mk (Kd.R_below (by (with_reducible repeat (first | apply Kd.R_alloc | apply Kd.R_drewN | apply Kd.R_drew)); exact (Kd.R_mono (Kd.R_far (p := ⟨gb280, 1, none⟩) (Kd.R_far (p := ⟨gb280, 0, none⟩) (Kd.R_types HO_261001.out BK280.out (by decide)) (fun _ hk => hk.2) (.int .i64 t275)) (fun _ hk => hk.2) (.slice Ao74 t276.length co74)) (fun _ h_ => h_.1))) hb); replace HO274 := zp.mk (Kd.R_below (by (with_reducible repeat (first | apply Kd.R_alloc | apply Kd.R_drewN | apply Kd.R_drew)); exact (Kd.R_mono (Kd.R_far (p := ⟨gb280, 1, none⟩) (Kd.R_far (p := ⟨gb280, 0, none⟩) (Kd.R_types HO274.out BK280.out (by decide)) (fun _ hk => hk.2) (.int .i64 t275)) (fun _ hk => hk.2) (.slice Ao74 t276.length co74)) (fun _ h_ => h_.1))) hb); replace HO278 := zp.mk (Kd.R_below (by (with_reducible repeat (first | apply Kd.R_alloc | apply Kd.R_drewN | apply Kd.R_drew)); exact (Kd.R_mono (Kd.R_far (p := ⟨gb280, 1, none⟩) (Kd.R_far (p := ⟨gb280, 0, none⟩) (Kd.R_types HO278.out BK280.out (by decide)) (fun _ hk => hk.2) (.int .i64 t275)) (fun _ hk => hk.2) (.slice Ao74 t276.length co74)) (fun _ h_ => h_.1))) hb); replace BK251 := zp.mk (zl (g := gb251) (o := .cells #[.int .i64 t246, .slice Ao15 t247.length co15] 27 (0, 0)) (by (with_reducible repeat (first | refine zf ?_ _ | refine zi ?_ | refine zg ?_ _)); refine blk_far ?_ NB251_280.out _; (with_reducible repeat (first | refine zf ?_ _ | refine zi ?_ | refine zg ?_ _)); refine blk_far ?_ NB251_280.out _; (with_reducible repeat (first | refine zf ?_ _ | refine zi ?_ | refine zg ?_ _)); exact BK251.out) hb); replace BK260 := zp.mk (zl (g := gb260) (o := .cells #[.int .i64 t255, .slice Ao22 t256.length co22] 27 (0, 0)) (by (with_reducible repeat (first | refine zf ?_ _ | refine zi ?_ | refine zg ?_ _)); refine blk_far ?_ NB260_280.out _; (with_reducible repeat (first | refine zf ?_ _ | refine zi ?_ | refine zg ?_ _)); refine blk_far ?_ NB260_280.out _; (with_reducible repeat (first | refine zf ?_ _ | refine zi ?_ | refine zg ?_ _)); exact BK260.out) hb); replace BK280 := zp.mk (zl (g := gb280) (o := .cells #[.int .i64 t275, .slice Ao74 t276.length co74] 27 (0, 0)) (by (with_reducible repeat (first | refine zf ?_ _ | refine zi ?_ | refine zg ?_ _)); refine blk_put (cs := #[.int .i64 t275, .slice none 0 0]) ?_ 1 _ rfl; (with_reducible repeat (first | refine zf ?_ _ | refine zi ?_ | refine zg ?_ _)); refine blk_put (cs := #[.int .i64 0, .slice none 0 0]) ?_ 0 _ rfl; (with_reducible repeat (first | refine zf ?_ _ | refine zi ?_ | refine zg ?_ _)); exact BK280.out) hb); replace HB := zp.mk (zj (zv7 HB.out) hb); (try clear hb); (try clear hb2); (try clear hk); (try clear hi)))
             go_meet
             case rel => exact ⟨_, (true), (by first | rfl | (simp; done) | (simp [*]; done)), H', ⟨by have := HJ8.out; have := HJ37.out; first | omega | exact Nat.le_refl _⟩, ⟨by (with_reducible repeat (first | apply Kd.R_alloc | apply Kd.R_drewN | apply Kd.R_drew)); exact HO_252001.out⟩, ⟨by (with_reducible repeat (first | apply Kd.R_alloc | apply Kd.R_drewN | apply Kd.R_drew)); exact HO_261001.out⟩, ⟨by (with_reducible repeat (first | apply Kd.R_alloc | apply Kd.R_drewN | apply Kd.R_drew)); exact Kd.R_mono HO278.out (fun _ hk => ⟨hk.1.2, hk.2⟩)⟩, ⟨zv8 BK251.out⟩, ⟨zv8 BK260.out⟩, ⟨zv8 BK280.out⟩, ⟨zv7 HB.out⟩⟩
           case rest =>
            clear HC61
            try clear c1
            try clear c2
            try clear p2
            try clear c3
            try clear c4
            try clear c4b0
            try clear c5
            try clear c6
            try clear c7
            try clear c8
            try clear c11
            try clear c20
            try clear c21
            try clear c24
            try clear c25
            try clear c29
            try clear c33
            try clear c36
            try clear c41
            try clear c42
            try clear c43
            try clear c43b0
            try clear c44
            try clear c45
            try clear c46
            try clear c47
            try clear c48
            try clear c50
            try clear c54
            try clear c57
            try clear c57b0
            try clear c58
            try clear c58b0
            try clear c58b1
            try clear c62
            try clear c71
            try clear c72
            try clear c76
            try clear c77
            try clear c78
            try clear c80
            try clear c83
            try clear c84
            try clear c86
            try clear y14_0
            try clear y14_1
            try clear y21_0
            try clear y21_1
            try clear y26_0
            try clear y26_1
            try clear y27_0
            try clear y27_1
            try clear y30_0
            try clear y30_1
            try clear y31_0
            try clear y31_1
            try clear y47_0
            try clear y47_1
            try clear y48_0
            try clear y48_1
            try clear y51_0
            try clear y51_1
            try clear y52_0
            try clear y52_1
            try clear y63_0
            try clear y63_1
            try clear y65_0
            try clear y65_1
            try clear y73_0
            try clear y73_1
            try clear y79_0
            try clear y79_1
            try clear y81_0
            try clear y81_1
            try clear y85_0
            try clear y85_1
            try clear y87_0
            try clear y87_1
            try clear u14_0
            try clear u14_1
            try clear u21_0
            try clear u21_1
            try clear u26_0
            try clear u26_1
            try clear u27_0
            try clear u27_1
            try clear u30_0
            try clear u30_1
            try clear u31_0
            try clear u31_1
            try clear u47_0
            try clear u47_1
            try clear u48_0
            try clear u48_1
            try clear u51_0
            try clear u51_1
            try clear u52_0
            try clear u52_1
            try clear u63_0
            try clear u63_1
            try clear u65_0
            try clear u65_1
            try clear u73_0
            try clear u73_1
            try clear u79_0
            try clear u79_1
            try clear u81_0
            try clear u81_1
            try clear u85_0
            try clear u85_1
            try clear u87_0
            try clear u87_1
            try clear p2
            obtain ⟨kq, x92_60, rfl, HA, HJ60, HO_252001, HO_261001, HO_281001, BK251, BK260, BK280, HB⟩ := hcut
            have hl261001_60 := (Kd.R_reads' HO_261001.out).1
            rw [hl261001_60] at HO_261001
            (try simp only [hl261001_60])
            (try simp only [hl261001_60] at BK251)
            (try simp only [hl261001_60] at BK260)
            (try simp only [hl261001_60] at BK280)
            (try simp only [hl261001_60] at HO_252001)
            (try simp only [hl261001_60] at HO_281001)
            cases kq with
            | zero => exact absurd HA.out (by simp [laws_FnExactLatOf.j2])
            | succ kj60 =>
             have H := HA.out
             clear HA
             simp only [laws_FnExactLatOf.j2] at H
             by_cases c89 : x92_60 = true
             ·subst c89
              have H1 : (some false) = some r := by rw [if_pos rfl] at H; exact H
              clear H
              have H := H1
              clear H1
              exact absurd ((Option.some.inj H).trans hr_) (by decide)
             ·replace c89 := Bool.eq_false_iff.mpr c89
              subst c89
              have H1 : ((laws_heldLat.f kj60 t255 t270 1).bind fun t282 => (if t282 < 0 then (some false) else (if t282 = t269 then (some true) else (some false)))) = some r := by rw [if_neg (show ¬ (false = true) by decide)] at H; exact H
              clear H
              have H := H1
              clear H1
              replace H := zs4 H
              obtain ⟨t282, A900, H⟩ := H
              replace H : (if t282 < 0 then (some false) else (if t282 = t269 then (some true) else (some false))) = some r := H
              have A90 := zp.mk A900
              clear A900
              by_cases c91 : t282 < 0
              ·rw [if_pos c91] at H
               have c91b0 : decide (t282 < 0) = true := decide_eq_true c91
               clear c91
               exact absurd ((Option.some.inj H).trans hr_) (by decide)
              ·rw [if_neg c91] at H
               have c91b0 : decide (t282 < 0) = false := decide_eq_false c91
               clear c91
               by_cases c92 : t282 = t269
               ·rw [if_pos c92] at H
                have c92b0 : (t282 == t269) = true := beq_iff_eq.mpr c92
                have c92b1 : (t282 != t269) = false := bne_eq_false_iff_eq.mpr c92
                clear c92
                obtain rfl := Option.some.inj H
                have hnb93 := NB260_251.out
                have hnc93 := NB251_260.out
                have hnb94 := NB260_280.out
                have hnc94 := NB280_260.out
                have y95_0 := zt0 BK260.out
                have y95_1 := zt1 BK260.out
                have u95_0 := zd BK260.out 0
                have u95_1 := zd BK260.out 1
                go_wp2_with (first | ((with_reducible refine zn (f := 48) rfl ?_); refine goesL_ (some 95) rfl rfl Try.func48 (by kernel_rfl) rfl #[.agg #[.int .i64 t255, .slice Ao22 t270.length co22], .int .i64 1] rfl (by (try simp only [List.map_toArray, List.map_cons, List.map_nil]); first | done | rfl | (simp only [List.length_drop, List.length_take]; rfl)) ?_; (with_reducible refine (laws_heldLat.calls kj60 t255 _ _ t270 1 t282 _ ?side1 ?side2 A90.out).mono ?_); (case side1 => repeat (first | exact (Kd.R_reads' HO_261001.out).2.2 | (with_reducible refine Kd.zr ?_ _) | (with_reducible refine Kd.zq ?_ _) | (with_reducible refine Kd.C_drew ?_))); (case side2 => exact (Kd.R_reads' HO_261001.out).2.1); rintro e w96 ⟨rfl, hb⟩; refine ⟨_, rfl, ?_⟩; replace HO_252001 := zp.mk (Kd.R_below (by (with_reducible repeat (first | apply Kd.R_alloc | apply Kd.R_drewN | apply Kd.R_drew)); exact HO_252001.out) hb); replace HO_261001 := zp.mk (Kd.R_below (by (with_reducible repeat (first | apply Kd.R_alloc | apply Kd.R_drewN | apply Kd.R_drew)); exact HO_261001.out) hb); replace HO_281001 := zp.mk (Kd.R_below (by (with_reducible repeat (first | apply Kd.R_alloc | apply Kd.R_drewN | apply Kd.R_drew)); exact HO_281001.out) hb); replace BK251 := zp.mk (zl (zv8 BK251.out) hb); replace BK260 := zp.mk (zl (zv8 BK260.out) hb); replace BK280 := zp.mk (zl (zv8 BK280.out) hb); replace HB := zp.mk (zj (zv7 HB.out) hb); (try clear hb); (try clear hb2); (try clear hk); (try clear hi)))
                go_ret
                exact ⟨by first | rfl | (simp [errW_none, errW_some] <;> rfl) | (simp [*, errW_none, errW_some] <;> rfl), zv7 HB.out⟩
               ·rw [if_neg c92] at H
                have c92b0 : (t282 == t269) = false := beq_eq_false_iff_ne.mpr c92
                have c92b1 : (t282 != t269) = true := bne_iff_ne.mpr c92
                exact absurd ((Option.some.inj H).trans hr_) (by decide)
          ·rw [if_neg c58] at H
           have c58b0 : (t271 == t269) = false := beq_eq_false_iff_ne.mpr c58
           have c58b1 : (t271 != t269) = true := bne_iff_ne.mpr c58
           exact absurd ((Option.some.inj H).trans hr_) (by decide)
     ·replace c36 := Bool.eq_false_iff.mpr c36
      subst c36
      have H1 : (some false) = some r := by rw [if_neg (show ¬ (false = true) by decide)] at H; exact H
      clear H
      have H := H1
      clear H1
      exact absurd ((Option.some.inj H).trans hr_) (by decide)

end Go.Proofs.Ytdpoliolinghfaa.QFnExactLatOf
