/- Proved: calls of the program come to the answers of the plain Lean functions that stand beside them. Each contract names its conditions. (Written by a program of this session, over the printer of the kit.) -/
import Derived.Test.YtnnahpmnkpmopaaZAggJoinQFnExactAggJoinx0
import Derived.Test.YtnnahpmnkpmopaaZAggJoinQFnExactAggJoinx3
import Derived.Test.YtnnahpmnkpmopaaZAggJoinQFnExactAggJoinx4
import Derived.Test.YtnnahpmnkpmopaaZAggJoinQFnExactAggJoinx5
namespace Go.Proofs.Ytnnahpmnkpmopaa.QFnExactAggJoin
open Go.RowKit Go.Proofs.YtnnahpmnkpmopaaW.PrintWords Go.Proofs.YtnnahpmnkpmopaaW.PrintLast Go.Proofs.YtnnahpmnkpmopaaW.PrintMore
attribute [local go_sem] max2_int min2_int max_two min_two max_three min_three max_four min_four   -- for this text's walks alone
set_option linter.unusedVariables false
set_option linter.unusedSimpArgs false

/-! ### spec_AggJoin: function 25 -/
def spec_AggJoin.j0 : Nat → Bool → Int → Int → Int → Int → Int → List Int → Int → Int → Int → Int → Int → List Int → Option (Int × Int × Int × Int × Int × List Int × Bool)
 | 0, _, _, _, _, _, _, _, _, _, _, _, _, _ => none
 | k + 1, x22, x229000, x229001, x229002, x229003, x229004, x229005, x230000, x230001, x230002, x230003, x230004, x230005 => if x22 = true then (some (0, 0, 0, 0, 0, ([] : List Int), false)) else ((spec_WideAdd.f x229001 x229002 x230001 x230002).bind fun ae => ((spec_TopOf.f k x229005 x230005).bind fun aY => (if x229000 = 0 then (if x230000 = 0 then (some (wrap64 (x229000 + x230000), ae.1, ae.2, x229003, x229004, aY, true)) else (some (wrap64 (x229000 + x230000), ae.1, ae.2, x230003, x230004, aY, true))) else (if x230000 = 0 then (some (wrap64 (x229000 + x230000), ae.1, ae.2, x229003, x229004, aY, true)) else (some (wrap64 (x229000 + x230000), ae.1, ae.2, mn x229003 x230003, mx x229004 x230004, aY, true))))))
def spec_AggJoin.f (k : Nat) (A : Int) (B : Int) (Z : Int) (T : Int) (O : Int) (J : List Int) (D : Int) (I : Int) (l : Int) (X : Int) (Y : Int) (U : List Int) : Option (Int × Int × Int × Int × Int × List Int × Bool) := (spec_AggOk.f k A B Z T O J).bind fun aQ => (if aQ = true then ((spec_AggOk.f k D I l X Y U).bind fun bj => (if bj = true then (spec_AggJoin.j0 k (decide ((wrap64 (A + D)) > 1000000)) A B Z T O J D I l X Y U) else (spec_AggJoin.j0 k true A B Z T O J D I l X Y U))) else (spec_AggJoin.j0 k true A B Z T O J D I l X Y U))
def spec_AggJoin.T3 : Bool × List (List Nat × List Nat) := (true, [([], []), ([0], [0]), ([], []), ([2], [2]), ([1, 3], [1, 3]), ([], []), ([5], [5]), ([], []), ([7], [7]), ([6, 8], [6, 8]), ([], []), ([10], [10]), ([], []), ([12], [12]), ([11, 13], [11, 13]), ([], []), ([15], [15]), ([], []), ([17], [17]), ([16, 18], [16, 18]), ([], []), ([20], [20]), ([], []), ([22], [22]), ([21, 23, 9], [21, 23]), ([4, 9, 14, 19, 24], [4, 9, 14, 19, 24]), ([], []), ([26, 25, 24, 0, 1, 2, 3, 4, 5, 6, 7, 8, 9, 10, 11, 12, 13, 14, 15, 16, 17, 18, 19, 20, 21, 22, 23, 24, 25, 26], [25, 26])])
def spec_AggJoin.B3 : List Nat := [0, 1, 0, 4, 15, 0, 32, 0, 128, 480, 0, 1024, 0, 4096, 15360, 0, 32768, 0, 131072, 491520, 0, 1048576, 0, 4194304, 15729632, 33554431, 0, 134217727]
theorem spec_AggJoin.tab3 : rtab .any (opsOf Try.f25 3) = spec_AggJoin.T3 := by kernel_rfl
theorem spec_AggJoin.bits3 : waitsOk spec_AggJoin.T3.2 spec_AggJoin.B3 = true := by kernel_rfl
theorem spec_AggJoin.facts {W : World} {g : Nat} {x0 x1 x2 x3 x4 x5 : Value} (h : W.heap[g]? = some (.cells #[x0, x1, x2, x3, x4, x5] 32 (0, 0))) :
  (W.cell? ⟨g, 0, none⟩ = some x0 ∧ W.cell? ⟨g, 1, none⟩ = some x1 ∧ W.cell? ⟨g, 2, none⟩ = some x2 ∧ W.cell? ⟨g, 3, none⟩ = some x3 ∧ W.cell? ⟨g, 4, none⟩ = some x4 ∧ W.cell? ⟨g, 5, none⟩ = some x5) ∧
  (W.frozen? ⟨g, 0, none⟩ = false ∧ W.frozen? ⟨g, 1, none⟩ = false ∧ W.frozen? ⟨g, 2, none⟩ = false ∧ W.frozen? ⟨g, 3, none⟩ = false ∧ W.frozen? ⟨g, 4, none⟩ = false ∧ W.frozen? ⟨g, 5, none⟩ = false) :=
 ⟨⟨(ze h 0).trans rfl, (ze h 1).trans rfl, (ze h 2).trans rfl, (ze h 3).trans rfl, (ze h 4).trans rfl, (ze h 5).trans rfl⟩, zd h 0, zd h 1, zd h 2, zd h 3, zd h 4, zd h 5⟩
theorem spec_AggJoin.put {W : World} {g : Nat} {cs : Array Value} (h : W.heap[g]? = some (.cells cs 32 (0, 0))) (o : Nat) (x : Value) : (W.setCell ⟨g, o, none⟩ x).heap[g]? = some (.cells (cs.setIfInBounds o x) 32 (0, 0)) := heap_setCell_same W g o cs 32 x h
theorem spec_AggJoin.far {W : World} {g q : Nat} {o : Obj} (h : W.heap[q]? = some o) (hne : q ≠ g) (i : Nat) (x : Value) : (W.setCell ⟨g, i, none⟩ x).heap[q]? = some o := by
 rw [heap_setCell_other W ⟨g, i, none⟩ q x (by first | exact hne | exact fun e => hne e.symm)]
 exact h
theorem spec_AggJoin.fill {w w4 : World} {ga gb gz : Nat} {Z0 Z1 Z2 Z3 Z4 Z5 x0 x1 x2 x3 x4 x5 : Value} {OA OB : Obj} (hz : w4.heap[gz]? = some (.cells #[Z0, Z1, Z2, Z3, Z4, Z5] 32 (0, 0))) (ha : w4.heap[ga]? = some OA) (hb : w4.heap[gb]? = some OB) (n1 : ga ≠ gz) (n2 : gb ≠ gz) (hB : Below w.heap.size w w4) (h1 : w.heap.size ≤ gz) (W : World) (hW : W = ((((((w4.setCell ⟨gz, 0, none⟩ x0).setCell ⟨gz, 1, none⟩ x1).setCell ⟨gz, 2, none⟩ x2).setCell ⟨gz, 3, none⟩ x3).setCell ⟨gz, 4, none⟩ x4).setCell ⟨gz, 5, none⟩ x5)) :
  W.heap[gz]? = some (.cells #[x0, x1, x2, x3, x4, x5] 32 (0, 0)) ∧ W.heap[ga]? = some OA ∧ W.heap[gb]? = some OB ∧ Below w.heap.size w W := by
 subst hW
 refine ⟨(spec_AggJoin.put (spec_AggJoin.put (spec_AggJoin.put (spec_AggJoin.put (spec_AggJoin.put (spec_AggJoin.put hz 0 x0) 1 x1) 2 x2) 3 x3) 4 x4) 5 x5).trans rfl, ?_, ?_, ?_⟩
 ·iterate 6 refine spec_AggJoin.far ?_ n1 _ _
  exact ha
 ·iterate 6 refine spec_AggJoin.far ?_ n2 _ _
  exact hb
 ·iterate 6 refine zh ?_ h1
  exact hB
theorem spec_AggJoin.six {w4 : World} {gz : Nat} {Z0 Z1 Z2 Z3 Z4 Z5 x0 x1 x2 x3 x4 x5 : Value} (hz : w4.heap[gz]? = some (.cells #[Z0, Z1, Z2, Z3, Z4, Z5] 32 (0, 0))) :
  ((((((w4.setCell ⟨gz, 0, none⟩ x0).setCell ⟨gz, 1, none⟩ x1).setCell ⟨gz, 2, none⟩ x2).setCell ⟨gz, 3, none⟩ x3).setCell ⟨gz, 4, none⟩ x4).setCell ⟨gz, 5, none⟩ x5).heap[gz]? = some (.cells #[x0, x1, x2, x3, x4, x5] 32 (0, 0)) :=
 (spec_AggJoin.put (spec_AggJoin.put (spec_AggJoin.put (spec_AggJoin.put (spec_AggJoin.put (spec_AggJoin.put hz 0 x0) 1 x1) 2 x2) 3 x3) 4 x4) 5 x5).trans rfl
theorem spec_AggJoin.cases {k : Nat} {A B Z T O : Int} {J : List Int} {D I l X Y : Int} {U : List Int} {R : Int × Int × Int × Int × Int × List Int × Bool} (h : spec_AggJoin.f k A B Z T O J D I l X Y U = some R) :
  (spec_AggOk.f k A B Z T O J = some false ∧ R = (0, 0, 0, 0, 0, [], false)) ∨ (spec_AggOk.f k A B Z T O J = some true ∧ spec_AggOk.f k D I l X Y U = some false ∧ R = (0, 0, 0, 0, 0, [], false)) ∨
  (spec_AggOk.f k A B Z T O J = some true ∧ spec_AggOk.f k D I l X Y U = some true ∧ wrap64 (A + D) > 1000000 ∧ R = (0, 0, 0, 0, 0, [], false)) ∨
  (spec_AggOk.f k A B Z T O J = some true ∧ spec_AggOk.f k D I l X Y U = some true ∧ ¬ wrap64 (A + D) > 1000000 ∧ ∃ s1 s2 t q, spec_WideAdd.f B Z I l = some (s1, s2) ∧ spec_TopOf.f q J U = some t ∧
   R = (wrap64 (A + D), s1, s2, if D = 0 then T else if A = 0 then X else mn T X, if D = 0 then O else if A = 0 then Y else mx O Y, t, true)) := by
 unfold spec_AggJoin.f at h
 obtain ⟨p, hp, h⟩ := zs4 h
 have z : ∀ k, spec_AggJoin.j0 k true A B Z T O J D I l X Y U = some R → R = (0, 0, 0, 0, 0, [], false) := fun k h => by
  cases k with
  | zero => simp [spec_AggJoin.j0] at h
  | succ k => simp only [spec_AggJoin.j0, if_true] at h; exact (Option.some.inj h).symm
 cases p with
 | false => rw [if_neg (by decide)] at h; exact .inl ⟨hp, z _ h⟩
 | true =>
  rw [if_pos rfl] at h
  obtain ⟨q, hq, h⟩ := zs4 h
  cases q with
  | false => rw [if_neg (by decide)] at h; exact .inr (.inl ⟨hp, hq, z _ h⟩)
  | true =>
   rw [if_pos rfl] at h
   by_cases c : wrap64 (A + D) > 1000000
   ·rw [decide_eq_true c] at h; exact .inr (.inr (.inl ⟨hp, hq, c, z _ h⟩))
   ·rw [decide_eq_false c] at h
    cases k with
    | zero => simp [spec_AggJoin.j0] at h
    | succ k =>
     simp only [spec_AggJoin.j0, Bool.false_eq_true, if_false] at h
     obtain ⟨⟨s1, s2⟩, hs, h⟩ := zs4 h
     obtain ⟨t, ht, h⟩ := zs4 h
     refine .inr (.inr (.inr ⟨hp, hq, c, s1, s2, t, k, hs, ht, ?_⟩))
     by_cases c1 : A = 0
     ·rw [if_pos c1] at h
      by_cases c2 : D = 0 <;> simp only [c2, if_true, if_false] at h ⊢ <;> exact (by simpa [c1, c2] using (Option.some.inj h).symm)
     ·rw [if_neg c1] at h
      by_cases c2 : D = 0 <;> simp only [c2, if_true, if_false] at h ⊢ <;> exact (by simpa [c1, c2] using (Option.some.inj h).symm)
set_option maxHeartbeats 4000000 in
set_option maxRecDepth 100000 in
theorem spec_AggJoin.calls (k : Nat) (A : Int) (B : Int) (Z : Int) (T : Int) (O : Int) (aa : Option Addr) (u : Nat) (J : List Int) (D : Int) (I : Int) (l : Int) (X : Int) (Y : Int) (ac : Option Addr) (ab : Nat) (U : List Int) (r1 : Int) (r2 : Int) (r3 : Int) (r4 : Int) (r5 : Int) (r6 : List Int) (r7 : Bool) (w : World) (a6 : Kd.C (Kd.int .i64) w aa J.length J) (ba : J.length ≤ u) (a5 : Kd.C (Kd.int .i64) w ac U.length U) (a7 : U.length ≤ ab) (h : spec_AggJoin.f k A B Z T O J D I l X Y U = some (r1, r2, r3, r4, r5, r6, r7)) :
  Calls Try.prog 25 #[.agg #[.int .i64 A, .int .i64 B, .int .u64 Z, .int .i64 T, .int .i64 O, .slice aa J.length u], .agg #[.int .i64 D, .int .i64 I, .int .u64 l, .int .i64 X, .int .i64 Y, .slice ac U.length ab]] w fun e w' => ∃ bk : Value, e = .returned (.tuple #[.agg #[.int .i64 r1, .int .i64 r2, .int .u64 r3, .int .i64 r4, .int .i64 r5, bk], .bool r7]) ∧ Kd.R (Kd.int .i64) 3 w' w.heap.size (fun _ => True) bk r6 ∧ Below w.heap.size w w' := by
 have bE := Try.underlying32
 have be := Try.underlying30
 have aN := zp.mk a6
 have aX := zp.mk ba
 have aV := zp.mk a5
 have a4 := zp.mk a7
 have HB := zp.mk (Below.refl w.heap.size w)
 have hcase := zp.mk (spec_AggJoin.cases h)
 clear a6 ba a5 a7 h
 go_enter Try.func25, Try.ntmps25
 go_wp2_with (first
  | ((with_reducible refine zo (N := 2) rfl ?_); refine zm ?hg (N := 2) ?hd (cs := #[.int .i64 A, .int .i64 B, .int .u64 Z, .int .i64 T, .int .i64 O, .slice aa J.length u]) (t := 32) ?hr ?_; (case hd => rfl); (case hg => rfl); (case hr => first | (go_simp; done) | (go_simp; rfl)); intro ga hga w1 hbox hb; have GA := zp.mk hga; have BA := zp.mk hbox; have B1 := zp.mk hb; clear hga hbox hb)
  | ((with_reducible refine zo (N := 3) rfl ?_); refine zm ?hg (N := 3) ?hd (cs := #[.int .i64 D, .int .i64 I, .int .u64 l, .int .i64 X, .int .i64 Y, .slice ac U.length ab]) (t := 32) ?hr ?_; (case hd => rfl); (case hg => rfl); (case hr => first | (go_simp; done) | (go_simp; rfl)); intro gb hgb w2 hbox hb; have GB := zp.mk hgb; have BB := zp.mk hbox; have B2 := zp.mk hb; clear hgb hbox hb)
  | ((with_reducible refine zo (N := 4) rfl ?_); refine zm ?hg (N := 4) ?hd (cs := #[.int .i64 0, .int .i64 0, .int .u64 0, .int .i64 0, .int .i64 0, .slice none 0 0]) (t := 32) ?hr ?_; (case hd => rfl); (case hg => rfl); (case hr => first | (go_simp; done) | (go_simp; rfl)); intro gz hgz w3 hbox hb; have GZ := zp.mk hgz; have BZ := zp.mk hbox; have B3 := zp.mk hb; clear hgz hbox hb; refine zp.out ?_))
 refine ⟨?_⟩
 have n1 : ga < gb := by have := blk_lt BA.out; have := GB.out; omega
 have n2 : gb < gz := by have := blk_lt BB.out; have := GZ.out; omega
 have hga := GA.out
 have bg : Below w.heap.size w w2 := B1.out.trans (B2.out.mono B1.out.size)
 have bb : Below w.heap.size w w3 := bg.trans (B3.out.mono bg.size)
 have BKB := zp.mk ((B3.out.block gb (blk_lt BB.out)).trans BB.out)
 have BKA := zp.mk ((B3.out.block ga (by have := blk_lt BB.out; omega)).trans ((B2.out.block ga (blk_lt BA.out)).trans BA.out))
 have BKZ := zp.mk BZ.out
 have HRA := zp.mk (Kd.zt aN.out bb)
 have HRB := zp.mk (Kd.zt aV.out bb)
 have G := zp.mk bb
 have NAB : ga ≠ gb := by omega
 have NAZ : ga ≠ gz := by omega
 have NBZ : gb ≠ gz := by omega
 have NBA : gb ≠ ga := by omega
 have NZA : gz ≠ ga := by omega
 have NZB : gz ≠ gb := by omega
 have HGA := zp.mk (show w.heap.size ≤ ga by omega)
 have HGZ := zp.mk (show w.heap.size ≤ gz by omega)
 have HGB := zp.mk (show w.heap.size ≤ gb by omega)
 clear bg bb BA BB BZ B1 B2 B3 GA GB GZ hga n1 n2 HB
 obtain ⟨⟨ak, aA, aG, ah, ag, aD⟩, az, ap, an, aH, aq, au⟩ := spec_AggJoin.facts BKA.out
 obtain ⟨⟨af, ax, al, ai, aj, ar⟩, am, av, ay, aw, aC, ao⟩ := spec_AggJoin.facts BKB.out
 obtain ⟨⟨z0, z1, z2, z3, z4, z5⟩, v0, v1, v2, v3, v4, v5⟩ := spec_AggJoin.facts BKZ.out
 rcases hcase.out with ⟨hp, hR⟩ | ⟨hp, hq, hR⟩ | ⟨hp, hq, cw, hR⟩ | ⟨hp, hq, cw, s1, s2, t, kq, hs, ht, hR⟩
 ·simp only [Prod.mk.injEq] at hR
  obtain ⟨rfl, rfl, rfl, rfl, rfl, rfl, rfl⟩ := hR
  have HP := zp.mk hp
  clear hp hcase
  go_wp2_with (go_at_call 9; (with_reducible refine (spec_AggOk.calls k A B Z T O aa u J false _ (Kd.zt aN.out G.out) aX.out HP.out).mono ?_); rintro e w4 ⟨rfl, hb⟩; replace BKA := zp.mk ((hb.block ga (blk_lt BKA.out)).trans BKA.out); replace BKB := zp.mk ((hb.block gb (blk_lt BKB.out)).trans BKB.out); replace BKZ := zp.mk ((hb.block gz (blk_lt BKZ.out)).trans BKZ.out); replace G := zp.mk (G.out.trans (hb.mono G.out.size)); clear hb ak aA aG ah ag aD az ap an aH aq au af ax al ai aj ar am av ay aw aC ao z0 z1 z2 z3 z4 z5 v0 v1 v2 v3 v4 v5; obtain ⟨⟨ak, aA, aG, ah, ag, aD⟩, az, ap, an, aH, aq, au⟩ := spec_AggJoin.facts BKA.out; obtain ⟨⟨af, ax, al, ai, aj, ar⟩, am, av, ay, aw, aC, ao⟩ := spec_AggJoin.facts BKB.out; obtain ⟨⟨z0, z1, z2, z3, z4, z5⟩, v0, v1, v2, v3, v4, v5⟩ := spec_AggJoin.facts BKZ.out)
  refine bodyPost_ret (results_ct rfl _ _ gz 32 #[.int .i64 0, .int .i64 0, .int .u64 0, .int .i64 0, .int .i64 0, .slice none 0 0] (0, 0) _ rfl (spec_AggJoin.fill BKZ.out BKA.out BKB.out NAZ NBZ G.out HGZ.out _ rfl).1 Try.underlying32 rfl (by kernel_rfl)) rfl ?_
  exact ⟨_, rfl, Kd.R_nil _ _ _ _ _, (spec_AggJoin.fill BKZ.out BKA.out BKB.out NAZ NBZ G.out HGZ.out _ rfl).2.2.2⟩
 ·simp only [Prod.mk.injEq] at hR
  obtain ⟨rfl, rfl, rfl, rfl, rfl, rfl, rfl⟩ := hR
  have HP := zp.mk hp
  have HQ := zp.mk hq
  clear hp hq hcase
  go_wp2_with (first | (go_at_call 9; (with_reducible refine (spec_AggOk.calls k A B Z T O aa u J true _ (Kd.zt aN.out G.out) aX.out HP.out).mono ?_); rintro e w4 ⟨rfl, hb⟩; replace BKA := zp.mk ((hb.block ga (blk_lt BKA.out)).trans BKA.out); replace BKB := zp.mk ((hb.block gb (blk_lt BKB.out)).trans BKB.out); replace BKZ := zp.mk ((hb.block gz (blk_lt BKZ.out)).trans BKZ.out); replace G := zp.mk (G.out.trans (hb.mono G.out.size)); clear hb ak aA aG ah ag aD az ap an aH aq au af ax al ai aj ar am av ay aw aC ao z0 z1 z2 z3 z4 z5 v0 v1 v2 v3 v4 v5; obtain ⟨⟨ak, aA, aG, ah, ag, aD⟩, az, ap, an, aH, aq, au⟩ := spec_AggJoin.facts BKA.out; obtain ⟨⟨af, ax, al, ai, aj, ar⟩, am, av, ay, aw, aC, ao⟩ := spec_AggJoin.facts BKB.out; obtain ⟨⟨z0, z1, z2, z3, z4, z5⟩, v0, v1, v2, v3, v4, v5⟩ := spec_AggJoin.facts BKZ.out) | (go_at_call 9; (with_reducible refine (spec_AggOk.calls k D I l X Y ac ab U false _ (Kd.zt aV.out G.out) a4.out HQ.out).mono ?_); rintro e w5 ⟨rfl, hb⟩; replace BKA := zp.mk ((hb.block ga (blk_lt BKA.out)).trans BKA.out); replace BKB := zp.mk ((hb.block gb (blk_lt BKB.out)).trans BKB.out); replace BKZ := zp.mk ((hb.block gz (blk_lt BKZ.out)).trans BKZ.out); replace G := zp.mk (G.out.trans (hb.mono G.out.size)); clear hb ak aA aG ah ag aD az ap an aH aq au af ax al ai aj ar am av ay aw aC ao z0 z1 z2 z3 z4 z5 v0 v1 v2 v3 v4 v5; obtain ⟨⟨ak, aA, aG, ah, ag, aD⟩, az, ap, an, aH, aq, au⟩ := spec_AggJoin.facts BKA.out; obtain ⟨⟨af, ax, al, ai, aj, ar⟩, am, av, ay, aw, aC, ao⟩ := spec_AggJoin.facts BKB.out; obtain ⟨⟨z0, z1, z2, z3, z4, z5⟩, v0, v1, v2, v3, v4, v5⟩ := spec_AggJoin.facts BKZ.out))
  refine bodyPost_ret (results_ct rfl _ _ gz 32 #[.int .i64 0, .int .i64 0, .int .u64 0, .int .i64 0, .int .i64 0, .slice none 0 0] (0, 0) _ rfl (spec_AggJoin.fill BKZ.out BKA.out BKB.out NAZ NBZ G.out HGZ.out _ rfl).1 Try.underlying32 rfl (by kernel_rfl)) rfl ?_
  exact ⟨_, rfl, Kd.R_nil _ _ _ _ _, (spec_AggJoin.fill BKZ.out BKA.out BKB.out NAZ NBZ G.out HGZ.out _ rfl).2.2.2⟩
 ·simp only [Prod.mk.injEq] at hR
  obtain ⟨rfl, rfl, rfl, rfl, rfl, rfl, rfl⟩ := hR
  have HP := zp.mk hp
  have HQ := zp.mk hq
  have cd : decide (1000000 < wrap64 (A + D)) = true := decide_eq_true cw
  clear hp hq hcase cw
  go_wp2_with (first | (go_at_call 9; (with_reducible refine (spec_AggOk.calls k A B Z T O aa u J true _ (Kd.zt aN.out G.out) aX.out HP.out).mono ?_); rintro e w4 ⟨rfl, hb⟩; replace BKA := zp.mk ((hb.block ga (blk_lt BKA.out)).trans BKA.out); replace BKB := zp.mk ((hb.block gb (blk_lt BKB.out)).trans BKB.out); replace BKZ := zp.mk ((hb.block gz (blk_lt BKZ.out)).trans BKZ.out); replace G := zp.mk (G.out.trans (hb.mono G.out.size)); clear hb ak aA aG ah ag aD az ap an aH aq au af ax al ai aj ar am av ay aw aC ao z0 z1 z2 z3 z4 z5 v0 v1 v2 v3 v4 v5; obtain ⟨⟨ak, aA, aG, ah, ag, aD⟩, az, ap, an, aH, aq, au⟩ := spec_AggJoin.facts BKA.out; obtain ⟨⟨af, ax, al, ai, aj, ar⟩, am, av, ay, aw, aC, ao⟩ := spec_AggJoin.facts BKB.out; obtain ⟨⟨z0, z1, z2, z3, z4, z5⟩, v0, v1, v2, v3, v4, v5⟩ := spec_AggJoin.facts BKZ.out) | (go_at_call 9; (with_reducible refine (spec_AggOk.calls k D I l X Y ac ab U true _ (Kd.zt aV.out G.out) a4.out HQ.out).mono ?_); rintro e w5 ⟨rfl, hb⟩; replace BKA := zp.mk ((hb.block ga (blk_lt BKA.out)).trans BKA.out); replace BKB := zp.mk ((hb.block gb (blk_lt BKB.out)).trans BKB.out); replace BKZ := zp.mk ((hb.block gz (blk_lt BKZ.out)).trans BKZ.out); replace G := zp.mk (G.out.trans (hb.mono G.out.size)); clear hb ak aA aG ah ag aD az ap an aH aq au af ax al ai aj ar am av ay aw aC ao z0 z1 z2 z3 z4 z5 v0 v1 v2 v3 v4 v5; obtain ⟨⟨ak, aA, aG, ah, ag, aD⟩, az, ap, an, aH, aq, au⟩ := spec_AggJoin.facts BKA.out; obtain ⟨⟨af, ax, al, ai, aj, ar⟩, am, av, ay, aw, aC, ao⟩ := spec_AggJoin.facts BKB.out; obtain ⟨⟨z0, z1, z2, z3, z4, z5⟩, v0, v1, v2, v3, v4, v5⟩ := spec_AggJoin.facts BKZ.out))
  refine bodyPost_ret (results_ct rfl _ _ gz 32 #[.int .i64 0, .int .i64 0, .int .u64 0, .int .i64 0, .int .i64 0, .slice none 0 0] (0, 0) _ rfl (spec_AggJoin.fill BKZ.out BKA.out BKB.out NAZ NBZ G.out HGZ.out _ rfl).1 Try.underlying32 rfl (by kernel_rfl)) rfl ?_
  exact ⟨_, rfl, Kd.R_nil _ _ _ _ _, (spec_AggJoin.fill BKZ.out BKA.out BKB.out NAZ NBZ G.out HGZ.out _ rfl).2.2.2⟩
 ·have HP := zp.mk hp
  have HQ := zp.mk hq
  have cd : decide (1000000 < wrap64 (A + D)) = false := decide_eq_false (by omega)
  clear hp hq hcase cw
  go_wp2_with (first | (go_at_call 9; (with_reducible refine (spec_AggOk.calls k A B Z T O aa u J true _ (Kd.zt aN.out G.out) aX.out HP.out).mono ?_); rintro e w4 ⟨rfl, hb⟩; replace BKA := zp.mk ((hb.block ga (blk_lt BKA.out)).trans BKA.out); replace BKB := zp.mk ((hb.block gb (blk_lt BKB.out)).trans BKB.out); replace BKZ := zp.mk ((hb.block gz (blk_lt BKZ.out)).trans BKZ.out); replace G := zp.mk (G.out.trans (hb.mono G.out.size)); clear hb ak aA aG ah ag aD az ap an aH aq au af ax al ai aj ar am av ay aw aC ao z0 z1 z2 z3 z4 z5 v0 v1 v2 v3 v4 v5; obtain ⟨⟨ak, aA, aG, ah, ag, aD⟩, az, ap, an, aH, aq, au⟩ := spec_AggJoin.facts BKA.out; obtain ⟨⟨af, ax, al, ai, aj, ar⟩, am, av, ay, aw, aC, ao⟩ := spec_AggJoin.facts BKB.out; obtain ⟨⟨z0, z1, z2, z3, z4, z5⟩, v0, v1, v2, v3, v4, v5⟩ := spec_AggJoin.facts BKZ.out) | (go_at_call 9; (with_reducible refine (spec_AggOk.calls k D I l X Y ac ab U true _ (Kd.zt aV.out G.out) a4.out HQ.out).mono ?_); rintro e w5 ⟨rfl, hb⟩; replace BKA := zp.mk ((hb.block ga (blk_lt BKA.out)).trans BKA.out); replace BKB := zp.mk ((hb.block gb (blk_lt BKB.out)).trans BKB.out); replace BKZ := zp.mk ((hb.block gz (blk_lt BKZ.out)).trans BKZ.out); replace G := zp.mk (G.out.trans (hb.mono G.out.size)); clear hb ak aA aG ah ag aD az ap an aH aq au af ax al ai aj ar am av ay aw aC ao z0 z1 z2 z3 z4 z5 v0 v1 v2 v3 v4 v5; obtain ⟨⟨ak, aA, aG, ah, ag, aD⟩, az, ap, an, aH, aq, au⟩ := spec_AggJoin.facts BKA.out; obtain ⟨⟨af, ax, al, ai, aj, ar⟩, am, av, ay, aw, aC, ao⟩ := spec_AggJoin.facts BKB.out; obtain ⟨⟨z0, z1, z2, z3, z4, z5⟩, v0, v1, v2, v3, v4, v5⟩ := spec_AggJoin.facts BKZ.out))
  obtain ⟨rfl, rfl, rfl, h4, h5, rfl, rfl⟩ := (by simpa only [Prod.mk.injEq] using hR : r1 = wrap64 (A + D) ∧ r2 = s1 ∧ r3 = s2 ∧ r4 = (if D = 0 then T else if A = 0 then X else mn T X) ∧ r5 = (if D = 0 then O else if A = 0 then Y else mx O Y) ∧ r6 = t ∧ r7 = true)
  have HS := zp.mk hs
  have HT := zp.mk ht
  have H4 := zp.mk h4
  have H5 := zp.mk h5
  clear hs ht h4 h5 hR
  obtain ⟨bd, a9⟩ : ∃ j_ : Int, mn T X = j_ := ⟨_, rfl⟩
  obtain ⟨bc, a8⟩ : ∃ j_ : Int, mx O Y = j_ := ⟨_, rfl⟩
  rw [a9] at H4
  rw [a8] at H5
  have br : (if X < T then X else T) = bd := a9
  have bw : (if O < Y then Y else O) = bc := a8
  clear a9 a8
  clear z0 z1 z2 z3 z4 z5 v0 v1 v2 v3 v4 v5 ak aA aG ah ag aD az ap an aH aq au af ax al ai aj ar am av ay aw aC ao
  have BKA : zp (w5.drew.heap[ga]? = some (.cells #[.int .i64 A, .int .i64 B, .int .u64 Z, .int .i64 T, .int .i64 O, .slice aa J.length u] 32 (0, 0))) := ⟨BKA.out⟩
  have BKB : zp (w5.drew.heap[gb]? = some (.cells #[.int .i64 D, .int .i64 I, .int .u64 l, .int .i64 X, .int .i64 Y, .slice ac U.length ab] 32 (0, 0))) := ⟨BKB.out⟩
  have BKZ : zp (w5.drew.heap[gz]? = some (.cells #[.int .i64 0, .int .i64 0, .int .u64 0, .int .i64 0, .int .i64 0, .slice none 0 0] 32 (0, 0))) := ⟨BKZ.out⟩
  have G := zp.mk (zb G.out)
  refine start_ (n := 28) (S := fun w' => (w'.cell? ⟨ga, 0, none⟩ = some (.int .i64 A) ∧ w'.cell? ⟨ga, 1, none⟩ = some (.int .i64 B) ∧ w'.cell? ⟨ga, 2, none⟩ = some (.int .u64 Z) ∧ w'.cell? ⟨ga, 3, none⟩ = some (.int .i64 T) ∧ w'.cell? ⟨ga, 4, none⟩ = some (.int .i64 O) ∧ w'.cell? ⟨ga, 5, none⟩ = some (.slice aa J.length u)) ∧ (w'.cell? ⟨gb, 0, none⟩ = some (.int .i64 D) ∧ w'.cell? ⟨gb, 1, none⟩ = some (.int .i64 I) ∧ w'.cell? ⟨gb, 2, none⟩ = some (.int .u64 l) ∧ w'.cell? ⟨gb, 3, none⟩ = some (.int .i64 X) ∧ w'.cell? ⟨gb, 4, none⟩ = some (.int .i64 Y) ∧ w'.cell? ⟨gb, 5, none⟩ = some (.slice ac U.length ab))) (ds := []) (zB 28 0) (by kernel_rfl) rfl rfl ⟨(spec_AggJoin.facts BKA.out).1, (spec_AggJoin.facts BKB.out).1⟩ (fun hHeld => ?_)
  refine with_tabW spec_AggJoin.tab3 spec_AggJoin.bits3 (fun HT_ HW_ => ?_)
  clear HRA HRB HP HQ
  generalize w5.drew = w6 at BKA BKB BKZ G hHeld ⊢
  refine zP 0 24 (zB 28 1) HT_ ?_
  refine zT 1 25 (zB 28 3) HT_ HW_ hHeld ?_
  refine zP 2 26 (zB 28 7) HT_ ?_
  refine zT 3 27 (zB 28 15) HT_ HW_ hHeld ?_
  refine zP 4 28 (zB 28 31) HT_ ?_
  refine zP 5 29 (zB 28 63) HT_ ?_
  refine zT 6 30 (zB 28 127) HT_ HW_ hHeld ?_
  refine zP 7 31 (zB 28 255) HT_ ?_
  refine zT 8 32 (zB 28 511) HT_ HW_ hHeld ?_
  refine zP 10 34 (zB 28 1535) HT_ ?_
  refine zT 11 35 (zB 28 3583) HT_ HW_ hHeld ?_
  refine zP 12 36 (zB 28 7679) HT_ ?_
  refine zT 13 37 (zB 28 15871) HT_ HW_ hHeld ?_
  refine zP 14 38 (zB 28 32255) HT_ ?_
  refine zP 15 39 (zB 28 65023) HT_ ?_
  refine zT 16 40 (zB 28 130559) HT_ HW_ hHeld ?_
  refine zP 17 41 (zB 28 261631) HT_ ?_
  refine zT 18 42 (zB 28 523775) HT_ HW_ hHeld ?_
  refine zP 19 43 (zB 28 1048063) HT_ ?_
  refine zP 20 44 (zB 28 2096639) HT_ ?_
  refine zT 21 45 (zB 28 4193791) HT_ HW_ hHeld ?_
  refine zP 22 46 (zB 28 8388095) HT_ ?_
  refine zT 23 47 (zB 28 16776703) HT_ HW_ hHeld ?_
  refine join_ (σ := Nat × Option Addr × Nat) 1 (zB 28 134217727) (fun s_ => [(33, .agg #[.int .i64 r2, .int .u64 r3]), (48, .slice s_.2.1 r6.length s_.2.2), (49, .agg #[.int .i64 (wrap64 (A + D)), .int .i64 r2, .int .u64 r3, .int .i64 bd, .int .i64 bc, .slice s_.2.1 r6.length s_.2.2]), (6, .pointer (some ⟨s_.1, 0, none⟩))]) (fun s_ w' => ((w'.cell? ⟨ga, 0, none⟩ = some (.int .i64 A) ∧ w'.cell? ⟨ga, 1, none⟩ = some (.int .i64 B) ∧ w'.cell? ⟨ga, 2, none⟩ = some (.int .u64 Z) ∧ w'.cell? ⟨ga, 3, none⟩ = some (.int .i64 T) ∧ w'.cell? ⟨ga, 4, none⟩ = some (.int .i64 O) ∧ w'.cell? ⟨ga, 5, none⟩ = some (.slice aa J.length u)) ∧ (w'.cell? ⟨gb, 0, none⟩ = some (.int .i64 D) ∧ w'.cell? ⟨gb, 1, none⟩ = some (.int .i64 I) ∧ w'.cell? ⟨gb, 2, none⟩ = some (.int .u64 l) ∧ w'.cell? ⟨gb, 3, none⟩ = some (.int .i64 X) ∧ w'.cell? ⟨gb, 4, none⟩ = some (.int .i64 Y) ∧ w'.cell? ⟨gb, 5, none⟩ = some (.slice ac U.length ab))) ∧ (w'.heap[s_.1]? = some (.cells #[.int .i64 0, .int .i64 0, .int .u64 0, .int .i64 0, .int .i64 0, .slice none 0 0] 32 (0, 0))) ∧ (w'.heap[ga]? = some (.cells #[.int .i64 A, .int .i64 B, .int .u64 Z, .int .i64 T, .int .i64 O, .slice aa J.length u] 32 (0, 0))) ∧ (w'.heap[gb]? = some (.cells #[.int .i64 D, .int .i64 I, .int .u64 l, .int .i64 X, .int .i64 Y, .slice ac U.length ab] 32 (0, 0))) ∧ (w'.heap[gz]? = some (.cells #[.int .i64 0, .int .i64 0, .int .u64 0, .int .i64 0, .int .i64 0, .slice none 0 0] 32 (0, 0))) ∧ Below w.heap.size w w' ∧ Kd.R (Kd.int .i64) 3 w' w.heap.size (fun k_ => k_ ≠ gz ∧ k_ ≠ s_.1) (.slice s_.2.1 r6.length s_.2.2) r6 ∧ s_.1 ≠ ga ∧ s_.1 ≠ gb ∧ s_.1 ≠ gz ∧ w.heap.size ≤ s_.1) ?_ ?_
  rotate_left
  ·intro hCont
   refine two_ (i := 9) (j := 26) (Ni := some 33) (Nj := some 6) (zB 28 16777215) (zB 28 83885567) rfl rfl rfl rfl (two_of HT_.out (by kernel_rfl)) (by decide) (by decide) (fun K hK => ?_) (fun K hK => ?_)
   ·skip
    refine goes_ Try.func29 (by kernel_rfl) rfl #[.agg #[.int .i64 B, .int .u64 Z], .agg #[.int .i64 I, .int .u64 l]] (by rfl) rfl rfl (by (try simp only [List.map_toArray, List.map_cons, List.map_nil]); first | done | rfl | (simp only [List.length_drop, List.length_take]; rfl)) ?_
    with_reducible refine (spec_WideAdd.calls B Z I l r2 r3 _ HS.out).mono ?_
    rintro e w7 ⟨rfl, hb⟩
    refine ⟨_, rfl, ?_⟩
    replace BKA := zp.mk ((hb.block ga (blk_lt BKA.out)).trans BKA.out)
    replace BKB := zp.mk ((hb.block gb (blk_lt BKB.out)).trans BKB.out)
    replace BKZ := zp.mk ((hb.block gz (blk_lt BKZ.out)).trans BKZ.out)
    replace G := zp.mk (G.out.trans (hb.mono G.out.size))
    clear hb
    refine hK.out _ _ ⟨(spec_AggJoin.facts BKA.out).1, (spec_AggJoin.facts BKB.out).1⟩ (fun hHeld => ?_)
    clear hK K
    refine norm_ (a' := ?_) ?_ ?_
    rotate_left
    ·show Act.put _ (some 33) _ = _
     simp only [Act.put, zs1, zs2, zs3, i64_w, i32_w]
     rfl
    refine two_ (i := 24) (j := 26) (Ni := some 48) (Nj := some 6) (zB 28 33554431) (zB 28 83886079) rfl rfl rfl rfl (two_of HT_.out (by kernel_rfl)) (by decide) (by decide) (fun K hK => ?_) (fun K hK => ?_)
    ·skip
     refine goes_ Try.func19 (by kernel_rfl) rfl #[.slice aa J.length u, .slice ac U.length ab] (by rfl) rfl rfl (by (try simp only [List.map_toArray, List.map_cons, List.map_nil]); first | done | rfl | (simp only [List.length_drop, List.length_take]; rfl)) ?_
     with_reducible refine (spec_TopOf.calls kq aa u J ac ab U r6 _ (Kd.zt aN.out G.out) aX.out (Kd.zt aV.out G.out) a4.out HT.out).mono ?_
     rintro e w8 ⟨v, rfl, ho, hb⟩
     obtain ⟨At, ct, rfl⟩ := Kd.R_slice ho
     refine ⟨_, rfl, ?_⟩
     have hzl := blk_lt BKZ.out
     have HOT := zp.mk (Kd.R_lower (base' := w.heap.size) (Kd.R_mono (ok' := fun k_ => k_ ≠ gz) (Kd.R_bound ho) (fun k_ hk => by have := hk.2.1; omega)) G.out.size)
     clear ho hzl
     replace BKA := zp.mk ((hb.block ga (blk_lt BKA.out)).trans BKA.out)
     replace BKB := zp.mk ((hb.block gb (blk_lt BKB.out)).trans BKB.out)
     replace BKZ := zp.mk ((hb.block gz (blk_lt BKZ.out)).trans BKZ.out)
     replace G := zp.mk (G.out.trans (hb.mono G.out.size))
     clear hb
     refine hK.out _ _ ⟨(spec_AggJoin.facts BKA.out).1, (spec_AggJoin.facts BKB.out).1⟩ (fun hHeld => ?_)
     clear hK K
     refine norm_ (a' := ?_) ?_ ?_
     rotate_left
     ·show Act.put _ (some 48) _ = _
      simp only [Act.put, zs1, zs2, zs3, i64_w, i32_w]
      rfl
     refine zP 25 49 (zB 28 67108863) HT_ ?_
     refine one_ (i := 26) (N := some 6) (zB 28 134217727) rfl rfl (one_of HT_.out (by kernel_rfl)) (by decide) (fun K hK => ?_)
     refine box_step rfl (N := 6) rfl (cs := #[.int .i64 0, .int .i64 0, .int .u64 0, .int .i64 0, .int .i64 0, .slice none 0 0]) (t := 32) ?_ ?_
     ·first | (go_simp; done) | (go_simp; rfl)
     intro go hgo w9 hbox hb
     have BKO := zp.mk hbox
     have NOA : go ≠ ga := by have := blk_lt BKA.out; omega
     have NOB : go ≠ gb := by have := blk_lt BKB.out; omega
     have NOZ : go ≠ gz := by have := blk_lt BKZ.out; omega
     have HGO := zp.mk (show w.heap.size ≤ go by have := G.out.size; omega)
     replace HOT := zp.mk (Kd.R_below (Kd.R_elderB HOT.out go (Nat.le_of_eq hgo.symm)) hb)
     replace BKA := zp.mk ((hb.block ga (blk_lt BKA.out)).trans BKA.out)
     replace BKB := zp.mk ((hb.block gb (blk_lt BKB.out)).trans BKB.out)
     replace BKZ := zp.mk ((hb.block gz (blk_lt BKZ.out)).trans BKZ.out)
     replace G := zp.mk (G.out.trans (hb.mono G.out.size))
     clear hb hgo hbox
     refine hK.out _ _ ⟨(spec_AggJoin.facts BKA.out).1, (spec_AggJoin.facts BKB.out).1⟩ (fun hHeld => ?_)
     clear hK K
     refine norm_ (a' := ?_) ?_ ?_
     rotate_left
     ·show Act.put _ (some 6) _ = _
      simp only [Act.put, zs1, zs2, zs3, i64_w, i32_w]
      rfl
     exact norm_ (by simp only [putAll, Act.put, zs1, zs2, zs3]) (hCont (go, At, ct) _ ⟨hHeld, BKO.out, BKA.out, BKB.out, BKZ.out, G.out, HOT.out, NOA, NOB, NOZ, HGO.out⟩)
    ·skip
     refine box_step rfl (N := 6) rfl (cs := #[.int .i64 0, .int .i64 0, .int .u64 0, .int .i64 0, .int .i64 0, .slice none 0 0]) (t := 32) ?_ ?_
     ·first | (go_simp; done) | (go_simp; rfl)
     intro go hgo w9 hbox hb
     have BKO := zp.mk hbox
     have NOA : go ≠ ga := by have := blk_lt BKA.out; omega
     have NOB : go ≠ gb := by have := blk_lt BKB.out; omega
     have NOZ : go ≠ gz := by have := blk_lt BKZ.out; omega
     have HGO := zp.mk (show w.heap.size ≤ go by have := G.out.size; omega)
     replace BKA := zp.mk ((hb.block ga (blk_lt BKA.out)).trans BKA.out)
     replace BKB := zp.mk ((hb.block gb (blk_lt BKB.out)).trans BKB.out)
     replace BKZ := zp.mk ((hb.block gz (blk_lt BKZ.out)).trans BKZ.out)
     replace G := zp.mk (G.out.trans (hb.mono G.out.size))
     clear hb hgo hbox
     refine hK.out _ _ ⟨(spec_AggJoin.facts BKA.out).1, (spec_AggJoin.facts BKB.out).1⟩ (fun hHeld => ?_)
     clear hK K
     refine norm_ (a' := ?_) ?_ ?_
     rotate_left
     ·show Act.put _ (some 6) _ = _
      simp only [Act.put, zs1, zs2, zs3, i64_w, i32_w]
      rfl
     refine one_ (i := 24) (N := some 48) (zB 28 100663295) rfl rfl (one_of HT_.out (by kernel_rfl)) (by decide) (fun K hK => ?_)
     refine goes_ Try.func19 (by kernel_rfl) rfl #[.slice aa J.length u, .slice ac U.length ab] (by rfl) rfl rfl (by (try simp only [List.map_toArray, List.map_cons, List.map_nil]); first | done | rfl | (simp only [List.length_drop, List.length_take]; rfl)) ?_
     with_reducible refine (spec_TopOf.calls kq aa u J ac ab U r6 _ (Kd.zt aN.out G.out) aX.out (Kd.zt aV.out G.out) a4.out HT.out).mono ?_
     rintro e w8 ⟨v, rfl, ho, hb⟩
     obtain ⟨At, ct, rfl⟩ := Kd.R_slice ho
     refine ⟨_, rfl, ?_⟩
     have hzl := blk_lt BKZ.out
     have hol := blk_lt BKO.out
     have HOT := zp.mk (Kd.R_lower (base' := w.heap.size) (Kd.R_mono (ok' := fun k_ => k_ ≠ gz ∧ k_ ≠ go) (Kd.R_bound ho) (fun k_ hk => ⟨by have := hk.2.1; omega, by have := hk.2.1; omega⟩)) G.out.size)
     clear ho hzl hol
     replace BKA := zp.mk ((hb.block ga (blk_lt BKA.out)).trans BKA.out)
     replace BKB := zp.mk ((hb.block gb (blk_lt BKB.out)).trans BKB.out)
     replace BKZ := zp.mk ((hb.block gz (blk_lt BKZ.out)).trans BKZ.out)
     replace BKO := zp.mk ((hb.block go (blk_lt BKO.out)).trans BKO.out)
     replace G := zp.mk (G.out.trans (hb.mono G.out.size))
     clear hb
     refine hK.out _ _ ⟨(spec_AggJoin.facts BKA.out).1, (spec_AggJoin.facts BKB.out).1⟩ (fun hHeld => ?_)
     clear hK K
     refine norm_ (a' := ?_) ?_ ?_
     rotate_left
     ·show Act.put _ (some 48) _ = _
      simp only [Act.put, zs1, zs2, zs3, i64_w, i32_w]
      rfl
     refine zP 25 49 (zB 28 134217727) HT_ ?_
     exact norm_ (by simp only [putAll, Act.put, zs1, zs2, zs3]) (hCont (go, At, ct) _ ⟨hHeld, BKO.out, BKA.out, BKB.out, BKZ.out, G.out, HOT.out, NOA, NOB, NOZ, HGO.out⟩)
   ·skip
    refine box_step rfl (N := 6) rfl (cs := #[.int .i64 0, .int .i64 0, .int .u64 0, .int .i64 0, .int .i64 0, .slice none 0 0]) (t := 32) ?_ ?_
    ·first | (go_simp; done) | (go_simp; rfl)
    intro go hgo w9 hbox hb
    have BKO := zp.mk hbox
    have NOA : go ≠ ga := by have := blk_lt BKA.out; omega
    have NOB : go ≠ gb := by have := blk_lt BKB.out; omega
    have NOZ : go ≠ gz := by have := blk_lt BKZ.out; omega
    have HGO := zp.mk (show w.heap.size ≤ go by have := G.out.size; omega)
    replace BKA := zp.mk ((hb.block ga (blk_lt BKA.out)).trans BKA.out)
    replace BKB := zp.mk ((hb.block gb (blk_lt BKB.out)).trans BKB.out)
    replace BKZ := zp.mk ((hb.block gz (blk_lt BKZ.out)).trans BKZ.out)
    replace G := zp.mk (G.out.trans (hb.mono G.out.size))
    clear hb hgo hbox
    refine hK.out _ _ ⟨(spec_AggJoin.facts BKA.out).1, (spec_AggJoin.facts BKB.out).1⟩ (fun hHeld => ?_)
    clear hK K
    refine norm_ (a' := ?_) ?_ ?_
    rotate_left
    ·show Act.put _ (some 6) _ = _
     simp only [Act.put, zs1, zs2, zs3, i64_w, i32_w]
     rfl
    refine one_ (i := 9) (N := some 33) (zB 28 83886079) rfl rfl (one_of HT_.out (by kernel_rfl)) (by decide) (fun K hK => ?_)
    refine goes_ Try.func29 (by kernel_rfl) rfl #[.agg #[.int .i64 B, .int .u64 Z], .agg #[.int .i64 I, .int .u64 l]] (by rfl) rfl rfl (by (try simp only [List.map_toArray, List.map_cons, List.map_nil]); first | done | rfl | (simp only [List.length_drop, List.length_take]; rfl)) ?_
    with_reducible refine (spec_WideAdd.calls B Z I l r2 r3 _ HS.out).mono ?_
    rintro e w7 ⟨rfl, hb⟩
    refine ⟨_, rfl, ?_⟩
    replace BKA := zp.mk ((hb.block ga (blk_lt BKA.out)).trans BKA.out)
    replace BKB := zp.mk ((hb.block gb (blk_lt BKB.out)).trans BKB.out)
    replace BKZ := zp.mk ((hb.block gz (blk_lt BKZ.out)).trans BKZ.out)
    replace BKO := zp.mk ((hb.block go (blk_lt BKO.out)).trans BKO.out)
    replace G := zp.mk (G.out.trans (hb.mono G.out.size))
    clear hb
    refine hK.out _ _ ⟨(spec_AggJoin.facts BKA.out).1, (spec_AggJoin.facts BKB.out).1⟩ (fun hHeld => ?_)
    clear hK K
    refine norm_ (a' := ?_) ?_ ?_
    rotate_left
    ·show Act.put _ (some 33) _ = _
     simp only [Act.put, zs1, zs2, zs3, i64_w, i32_w]
     rfl
    refine one_ (i := 24) (N := some 48) (zB 28 100663295) rfl rfl (one_of HT_.out (by kernel_rfl)) (by decide) (fun K hK => ?_)
    refine goes_ Try.func19 (by kernel_rfl) rfl #[.slice aa J.length u, .slice ac U.length ab] (by rfl) rfl rfl (by (try simp only [List.map_toArray, List.map_cons, List.map_nil]); first | done | rfl | (simp only [List.length_drop, List.length_take]; rfl)) ?_
    with_reducible refine (spec_TopOf.calls kq aa u J ac ab U r6 _ (Kd.zt aN.out G.out) aX.out (Kd.zt aV.out G.out) a4.out HT.out).mono ?_
    rintro e w8 ⟨v, rfl, ho, hb⟩
    obtain ⟨At, ct, rfl⟩ := Kd.R_slice ho
    refine ⟨_, rfl, ?_⟩
    have hzl := blk_lt BKZ.out
    have hol := blk_lt BKO.out
    have HOT := zp.mk (Kd.R_lower (base' := w.heap.size) (Kd.R_mono (ok' := fun k_ => k_ ≠ gz ∧ k_ ≠ go) (Kd.R_bound ho) (fun k_ hk => ⟨by have := hk.2.1; omega, by have := hk.2.1; omega⟩)) G.out.size)
    clear ho hzl hol
    replace BKA := zp.mk ((hb.block ga (blk_lt BKA.out)).trans BKA.out)
    replace BKB := zp.mk ((hb.block gb (blk_lt BKB.out)).trans BKB.out)
    replace BKZ := zp.mk ((hb.block gz (blk_lt BKZ.out)).trans BKZ.out)
    replace BKO := zp.mk ((hb.block go (blk_lt BKO.out)).trans BKO.out)
    replace G := zp.mk (G.out.trans (hb.mono G.out.size))
    clear hb
    refine hK.out _ _ ⟨(spec_AggJoin.facts BKA.out).1, (spec_AggJoin.facts BKB.out).1⟩ (fun hHeld => ?_)
    clear hK K
    refine norm_ (a' := ?_) ?_ ?_
    rotate_left
    ·show Act.put _ (some 48) _ = _
     simp only [Act.put, zs1, zs2, zs3, i64_w, i32_w]
     rfl
    refine zP 25 49 (zB 28 134217727) HT_ ?_
    exact norm_ (by simp only [putAll, Act.put, zs1, zs2, zs3]) (hCont (go, At, ct) _ ⟨hHeld, BKO.out, BKA.out, BKB.out, BKZ.out, G.out, HOT.out, NOA, NOB, NOZ, HGO.out⟩)
  rintro ⟨go, At, ct⟩ bp ⟨hHeld, h0, h1, h2, h3, h4, h5, NOA, NOB, NOZ, hgo⟩
  have BKO := zp.mk h0
  replace BKA := zp.mk h1
  replace BKB := zp.mk h2
  replace BKZ := zp.mk h3
  replace G := zp.mk h4
  have HOT := zp.mk h5
  have HGO := zp.mk hgo
  clear h0 h1 h2 h3 h4 h5 hgo
  refine norm_ (a' := ?_) ?_ ?_
  rotate_left
  ·simp only [putAll, Act.put, zs1, zs2, zs3]
   rfl
  refine one_ (i := 27) (N := none) (zB 28 268435455) rfl rfl (one_of HT_.out (by kernel_rfl)) (by decide) (fun K hK => ?_)
  obtain ⟨⟨z0, z1, z2, z3, z4, z5⟩, v0, v1, v2, v3, v4, v5⟩ := spec_AggJoin.facts BKO.out
  rw [if_pos (by rfl)]
  unfold Oper.wp
  go_simp
  obtain ⟨a3, aM⟩ : ∃ a3, a3 = ((((((bp.setCell ⟨go, 0, none⟩ (.int .i64 (wrap64 (A + D)))).setCell ⟨go, 1, none⟩ (.int .i64 r2)).setCell ⟨go, 2, none⟩ (.int .u64 r3)).setCell ⟨go, 3, none⟩ (.int .i64 bd)).setCell ⟨go, 4, none⟩ (.int .i64 bc)).setCell ⟨go, 5, none⟩ (.slice At r6.length ct)) := ⟨_, rfl⟩
  rw [← aM]
  have NAO := NOA.symm
  have NBO := NOB.symm
  have NZO := NOZ.symm
  obtain ⟨hoo, haa, hbb, hBB⟩ := spec_AggJoin.fill BKO.out BKA.out BKB.out NAO NBO G.out HGO.out a3 aM
  have hzz : a3.heap[gz]? = some (.cells #[.int .i64 0, .int .i64 0, .int .u64 0, .int .i64 0, .int .i64 0, .slice none 0 0] 32 (0, 0)) := by
   rw [aM]
   iterate 6 refine spec_AggJoin.far ?_ NZO _ _
   exact BKZ.out
  have hRR : Kd.R (Kd.int .i64) 3 a3 w.heap.size (fun k_ => k_ ≠ gz ∧ k_ ≠ go) (.slice At r6.length ct) r6 := by
   rw [aM]
   iterate 6 refine Kd.R_far (p := ⟨go, _, none⟩) ?_ (fun _ hk => hk.2) _
   exact HOT.out
  replace BKO := zp.mk hoo
  replace BKA := zp.mk haa
  replace BKB := zp.mk hbb
  replace BKZ := zp.mk hzz
  replace HOT := zp.mk hRR
  replace G := zp.mk hBB
  clear hoo haa hbb hzz hRR hBB aM z0 z1 z2 z3 z4 z5 v0 v1 v2 v3 v4 v5
  refine hK.out _ _ ⟨(spec_AggJoin.facts BKA.out).1, (spec_AggJoin.facts BKB.out).1⟩ (fun hHeld => ?_)
  clear hK K hHeld
  refine done_ (done_of HT_.out (by kernel_rfl)) ?_
  clear HT_ HW_
  obtain ⟨⟨ak, -, -, ah, ag, -⟩, -⟩ := spec_AggJoin.facts BKA.out
  obtain ⟨⟨af, -, -, ai, aj, -⟩, -⟩ := spec_AggJoin.facts BKB.out
  obtain ⟨⟨z0, z1, z2, z3, z4, z5⟩, v0, v1, v2, v3, v4, v5⟩ := spec_AggJoin.facts BKO.out
  obtain ⟨⟨x0, x1, x2, x3, x4, x5⟩, u0, u1, u2, u3, u4, u5⟩ := spec_AggJoin.facts BKZ.out
  by_cases c1 : A = 0
  ·by_cases c2 : D = 0
   ·skip
    have bi : (A == 0) = true := beq_iff_eq.mpr c1
    have bh : (D == 0) = true := beq_iff_eq.mpr c2
    obtain rfl : r4 = T := by rw [H4.out, if_pos c2]
    obtain rfl : r5 = O := by rw [H5.out, if_pos c2]
    clear c1 c2
    have bn : ((((a3.setCell ⟨go, 3, none⟩ (.int .i64 X)).setCell ⟨go, 4, none⟩ (.int .i64 Y)).setCell ⟨go, 3, none⟩ (.int .i64 r4)).setCell ⟨go, 4, none⟩ (.int .i64 r5)).heap[go]? = some (.cells #[.int .i64 (wrap64 (A + D)), .int .i64 r2, .int .u64 r3, .int .i64 r4, .int .i64 r5, .slice At r6.length ct] 32 (0, 0)) := (spec_AggJoin.put (spec_AggJoin.put (spec_AggJoin.put (spec_AggJoin.put BKO.out 3 _) 4 _) 3 _) 4 _).trans rfl
    obtain ⟨⟨-, -, -, q3, q4, -⟩, -⟩ := spec_AggJoin.facts bn
    clear bn
    go_wp2
    refine bodyPost_ret (results_ct rfl _ _ gz 32 #[.int .i64 (wrap64 (A + D)), .int .i64 r2, .int .u64 r3, .int .i64 _, .int .i64 _, .slice At r6.length ct] (0, 0) _ rfl (spec_AggJoin.six (by ((iterate 4 refine spec_AggJoin.far ?_ NZO _ _); exact BKZ.out))) Try.underlying32 rfl (by kernel_rfl)) rfl ?_
    refine ⟨_, rfl, ?_, ?_⟩
    ·refine Kd.R_mono (ok := fun k_ => k_ ≠ gz ∧ k_ ≠ go) ?_ (fun _ _ => trivial)
     iterate 6 refine Kd.R_far (p := ⟨gz, _, none⟩) ?_ (fun _ hk => hk.1) _
     iterate 4 refine Kd.R_far (p := ⟨go, _, none⟩) ?_ (fun _ hk => hk.2) _
     exact HOT.out
    ·iterate 6 refine zh ?_ HGZ.out
     iterate 4 refine zh ?_ HGO.out
     exact G.out
   ·skip
    have bi : (A == 0) = true := beq_iff_eq.mpr c1
    have bh : (D == 0) = false := beq_eq_false_iff_ne.mpr c2
    obtain rfl : r4 = X := by rw [H4.out, if_neg c2, if_pos c1]
    obtain rfl : r5 = Y := by rw [H5.out, if_neg c2, if_pos c1]
    clear c1 c2
    go_wp2
    refine bodyPost_ret (results_ct rfl _ _ gz 32 #[.int .i64 (wrap64 (A + D)), .int .i64 r2, .int .u64 r3, .int .i64 _, .int .i64 _, .slice At r6.length ct] (0, 0) _ rfl (spec_AggJoin.six (by ((iterate 2 refine spec_AggJoin.far ?_ NZO _ _); exact BKZ.out))) Try.underlying32 rfl (by kernel_rfl)) rfl ?_
    refine ⟨_, rfl, ?_, ?_⟩
    ·refine Kd.R_mono (ok := fun k_ => k_ ≠ gz ∧ k_ ≠ go) ?_ (fun _ _ => trivial)
     iterate 6 refine Kd.R_far (p := ⟨gz, _, none⟩) ?_ (fun _ hk => hk.1) _
     iterate 2 refine Kd.R_far (p := ⟨go, _, none⟩) ?_ (fun _ hk => hk.2) _
     exact HOT.out
    ·iterate 6 refine zh ?_ HGZ.out
     iterate 2 refine zh ?_ HGO.out
     exact G.out
  ·by_cases c2 : D = 0
   ·skip
    have bi : (A == 0) = false := beq_eq_false_iff_ne.mpr c1
    have bh : (D == 0) = true := beq_iff_eq.mpr c2
    obtain rfl : r4 = T := by rw [H4.out, if_pos c2]
    obtain rfl : r5 = O := by rw [H5.out, if_pos c2]
    clear c1 c2
    go_wp2
    refine bodyPost_ret (results_ct rfl _ _ gz 32 #[.int .i64 (wrap64 (A + D)), .int .i64 r2, .int .u64 r3, .int .i64 _, .int .i64 _, .slice At r6.length ct] (0, 0) _ rfl (spec_AggJoin.six (by ((iterate 2 refine spec_AggJoin.far ?_ NZO _ _); exact BKZ.out))) Try.underlying32 rfl (by kernel_rfl)) rfl ?_
    refine ⟨_, rfl, ?_, ?_⟩
    ·refine Kd.R_mono (ok := fun k_ => k_ ≠ gz ∧ k_ ≠ go) ?_ (fun _ _ => trivial)
     iterate 6 refine Kd.R_far (p := ⟨gz, _, none⟩) ?_ (fun _ hk => hk.1) _
     iterate 2 refine Kd.R_far (p := ⟨go, _, none⟩) ?_ (fun _ hk => hk.2) _
     exact HOT.out
    ·iterate 6 refine zh ?_ HGZ.out
     iterate 2 refine zh ?_ HGO.out
     exact G.out
   ·skip
    have bi : (A == 0) = false := beq_eq_false_iff_ne.mpr c1
    have bh : (D == 0) = false := beq_eq_false_iff_ne.mpr c2
    obtain rfl : r4 = bd := by rw [H4.out, if_neg c2, if_neg c1]
    obtain rfl : r5 = bc := by rw [H5.out, if_neg c2, if_neg c1]
    clear c1 c2
    go_wp2
    refine bodyPost_ret (results_ct rfl _ _ gz 32 #[.int .i64 (wrap64 (A + D)), .int .i64 r2, .int .u64 r3, .int .i64 _, .int .i64 _, .slice At r6.length ct] (0, 0) _ rfl (spec_AggJoin.six (by (exact BKZ.out))) Try.underlying32 rfl (by kernel_rfl)) rfl ?_
    refine ⟨_, rfl, ?_, ?_⟩
    ·refine Kd.R_mono (ok := fun k_ => k_ ≠ gz ∧ k_ ≠ go) ?_ (fun _ _ => trivial)
     iterate 6 refine Kd.R_far (p := ⟨gz, _, none⟩) ?_ (fun _ hk => hk.1) _
     exact HOT.out
    ·iterate 6 refine zh ?_ HGZ.out
     exact G.out

/-! ### impl_in: function 46 -/
def impl_in.f (a0 : Int) (a1 : Int) (a2 : Int) : Option (Bool) := if a1 ≤ a0 then (some (decide (a0 ≤ a2))) else (some false)
set_option maxHeartbeats 8000000 in
set_option maxRecDepth 100000 in
theorem impl_in.calls (a0 : Int) (a1 : Int) (a2 : Int) (r : Bool) (w : World) (h : impl_in.f a0 a1 a2 = some r) :
  Calls Try.prog 46 #[.int .i64 a0, .int .i64 a1, .int .i64 a2] w fun e w' => e = .returned (.bool r) ∧ Drawn0 w w' := by
 have H : (if a1 ≤ a0 then (some (decide (a0 ≤ a2))) else (some false)) = some r := h
 clear h
 by_cases c4 : a1 ≤ a0
 ·rw [if_pos c4] at H
  have bm : decide (a1 ≤ a0) = true := decide_eq_true c4
  clear c4
  obtain rfl := Option.some.inj H
  go_enter Try.func46, Try.ntmps46
  go_wp2
  go_ret
  exact ⟨by first | rfl | (simp; done) | (simp [*]; done), by repeat (first | exact Drawn0.refl _ | apply Drawn0.step)⟩
 ·rw [if_neg c4] at H
  have bm : decide (a1 ≤ a0) = false := decide_eq_false c4
  clear c4
  obtain rfl := Option.some.inj H
  go_enter Try.func46, Try.ntmps46
  go_wp2
  go_ret
  exact ⟨by first | rfl | (simp; done) | (simp [*]; done), by repeat (first | exact Drawn0.refl _ | apply Drawn0.step)⟩

-- NOT PRINTED: function 65 (bits_Add64)

/-! ### impl_WideAdd: function 47 -/
theorem add64_run (x y : Int) (hx : 0 ≤ x ∧ x ≤ 18446744073709551615) (hy : 0 ≤ y ∧ y ≤ 18446744073709551615) (w : World) :
  (callFunc 65 #[.int .u64 x, .int .u64 y, .int .u64 0]).run Try.prog w = .ok (.value (.tuple #[.int .u64 ((x + y) % 18446744073709551616), .int .u64 ((x + y) / 18446744073709551616)])) w := by
 rw [run_callFunc_extern Try.func65 (by kernel_rfl) (by kernel_rfl) (by kernel_rfl) (e := add64Entry) (by kernel_rfl)]
 have h := run_add64 (P := Try.prog) x y 0 hx.1 hy.1 (by omega) (by omega) w
 rw [Int.add_zero] at h
 rw [h]
 simp only [Result.andThen]
def impl_WideAdd.f (A : Int) (B : Int) (D : Int) (I : Int) : Option (Int × Int) :=
 if 0 ≤ B ∧ B ≤ 18446744073709551615 ∧ 0 ≤ I ∧ I ≤ 18446744073709551615 then some (wrap64 (wrap64 (A + D) + (B + I) / 18446744073709551616), (B + I) % 18446744073709551616) else none
set_option maxHeartbeats 1000000 in
set_option maxRecDepth 100000 in
theorem impl_WideAdd.calls (A : Int) (B : Int) (D : Int) (I : Int) (r1 : Int) (r2 : Int) (w : World) (h : impl_WideAdd.f A B D I = some (r1, r2)) :
  Calls Try.prog 47 #[.agg #[.int .i64 A, .int .u64 B], .agg #[.int .i64 D, .int .u64 I]] w fun e w' => e = .returned (.agg #[.int .i64 r1, .int .u64 r2]) ∧ Below w.heap.size w w' := by
 unfold impl_WideAdd.f at h
 by_cases c : 0 ≤ B ∧ B ≤ 18446744073709551615 ∧ 0 ≤ I ∧ I ≤ 18446744073709551615
 rotate_left
 ·rw [if_neg c] at h
  cases h
 rw [if_pos c] at h
 simp only [Option.some.injEq, Prod.mk.injEq] at h
 obtain ⟨rfl, rfl⟩ := h
 obtain ⟨h1, h2, h3, h4⟩ := c
 have hadd := add64_run B I ⟨h1, h2⟩ ⟨h3, h4⟩
 have b1 : 0 ≤ (B + I) / 18446744073709551616 := by omega
 have b2 : (B + I) / 18446744073709551616 ≤ 1 := by omega
 generalize (B + I) / 18446744073709551616 = q at hadd b1 b2
 generalize (B + I) % 18446744073709551616 = m at hadd
 clear h1 h2 h3 h4
 go_enter Try.func47, Try.ntmps47
 go_wp2
 refine bodyPost_ret (results_cell_row rfl _ _ (w.heap.size + 1 + 1) 30 #[.int .i64 (wrap64 (wrap64 (A + D) + q)), .int .u64 m] (0, 0) _ rfl (by simpa using heap_alloc_new ((w.alloc (Obj.cells #[Value.int IntKind.i64 A, Value.int IntKind.u64 B] 30)).alloc (Obj.cells #[Value.int IntKind.i64 D, Value.int IntKind.u64 I] 30)) _) Try.underlying30 rfl (by kernel_rfl)) rfl ?_
 exact ⟨rfl, zc (zc (zc (Below.refl _ _) _) _) _⟩

/-! ### impl_WideNeg: function 48 -/
def impl_WideNeg.f (A : Int) (B : Int) : Option (Int × Int) := (impl_WideAdd.f (Go.bits .xor .i64 (-1) A) (Go.bits .xor .u64 18446744073709551615 B) 0 1).bind fun aI => (some (aI.1, aI.2))
set_option maxHeartbeats 8000000 in
set_option maxRecDepth 100000 in
theorem impl_WideNeg.calls (A : Int) (B : Int) (r1 : Int) (r2 : Int) (w : World) (h : impl_WideNeg.f A B = some (r1, r2)) :
  Calls Try.prog 48 #[.agg #[.int .i64 A, .int .u64 B]] w fun e w' => e = .returned (.agg #[.int .i64 r1, .int .u64 r2]) ∧ Below w.heap.size w w' := by
 have be := Try.underlying30
 have HB := zp.mk (Below.refl w.heap.size w)
 have H : ((impl_WideAdd.f (Go.bits .xor .i64 (-1) A) (Go.bits .xor .u64 18446744073709551615 B) 0 1).bind fun aI => (some (aI.1, aI.2))) = some (r1, r2) := h
 clear h
 replace H := zs4 H
 obtain ⟨⟨aZ, aQ⟩, bl, H⟩ := H
 replace H : (some (aZ, aQ)) = some (r1, r2) := H
 have A2 := zp.mk bl
 clear bl
 simp only [Option.some.injEq, Prod.mk.injEq] at H
 obtain ⟨rfl, rfl⟩ := H
 go_enter Try.func48, Try.ntmps48
 go_wp2_with (first | ((with_reducible refine zo (N := 1) rfl ?_); refine zm ?hg (N := 1) ?hd (cs := #[.int .i64 A, .int .u64 B]) (t := 30) ?hr ?_; (case hd => rfl); (case hg => rfl); (case hr => first | (go_simp; done) | (go_simp; rfl)); intro aK hg w3 hbox hb; have ad := zp.mk (hbox); have bq := zp.mk ((zv3 (zv6 HB.out) hg)); have bs := zp.mk ((zv3 (zv6 HB.out) hg)); replace HB := zp.mk (zj (zv6 HB.out) hb); clear hb hbox hg) | ((with_reducible refine zo (N := 2) rfl ?_); refine zm ?hg (N := 2) ?hd (cs := #[.int .i64 0, .int .u64 0]) (t := 30) ?hr ?_; (case hd => rfl); (case hg => rfl); (case hr => first | (go_simp; done) | (go_simp; rfl)); intro aT hg w4 hbox hb; have aE := zp.mk (hbox); have bu := zp.mk ((zv3 (zv7 HB.out) hg)); have bx := zp.mk ((zv3 (zv7 HB.out) hg)); have aW := zp.mk ((by rw [hg]; exact Nat.ne_of_lt (blk_lt (g := aK) (o := .cells #[.int .i64 A, .int .u64 B] 30 (0, 0)) (zv8 ad.out)) : aK ≠ aT)); have aU := zp.mk ((by rw [hg]; exact Nat.ne_of_gt (blk_lt (g := aK) (o := .cells #[.int .i64 A, .int .u64 B] 30 (0, 0)) (zv8 ad.out)) : aT ≠ aK)); replace ad := zp.mk (zl (zv8 ad.out) hb); replace HB := zp.mk (zj (zv7 HB.out) hb); clear hb hbox hg; have bK := aW.out; have bI := aU.out; have bN := zt0 ad.out; have bz := zt1 ad.out; have bC := zd ad.out 0; have bM := zd ad.out 1) | ((with_reducible refine zn (f := 47) rfl ?_); refine goesL_ (some 11) rfl rfl Try.func47 (by kernel_rfl) rfl #[.agg #[.int .i64 (Go.bits .xor .i64 (-1) A), .int .u64 (Go.bits .xor .u64 18446744073709551615 B)], .agg #[.int .i64 0, .int .u64 1]] rfl (by (try simp only [List.map_toArray, List.map_cons, List.map_nil]); first | done | rfl | (simp only [List.length_drop, List.length_take]; rfl)) ?_; (with_reducible refine (impl_WideAdd.calls (Go.bits .xor .i64 (-1) A) (Go.bits .xor .u64 18446744073709551615 B) 0 1 aZ aQ _ A2.out).mono ?_); rintro e w7 ⟨rfl, hb⟩; refine ⟨_, rfl, ?_⟩; replace ad := zp.mk (zl (zv8 ad.out) hb); replace aE := zp.mk (zl (zv8 aE.out) hb); replace HB := zp.mk (zj (zv7 HB.out) hb); (try clear hb); (try clear hb2); (try clear hk); (try clear hi); have bD := zt0 aE.out; have bG := zt1 aE.out; have bF := zd aE.out 0; have bB := zd aE.out 1))
 refine bodyPost_ret (results_cell_row rfl _ _ aT 30 #[.int .i64 aZ, .int .u64 aQ] (0, 0) _ rfl (by (with_reducible repeat (first | refine zf ?_ _ | refine zi ?_ | refine zg ?_ _)); refine blk_put (cs := #[.int .i64 aZ, .int .u64 0]) ?_ 1 _ rfl; (with_reducible repeat (first | refine zf ?_ _ | refine zi ?_ | refine zg ?_ _)); refine blk_put (cs := #[.int .i64 0, .int .u64 0]) ?_ 0 _ rfl; (with_reducible repeat (first | refine zf ?_ _ | refine zi ?_ | refine zg ?_ _)); exact aE.out) Try.underlying30 rfl (by kernel_rfl)) rfl ?_
 exact ⟨by first | rfl | (simp [errW_none, errW_some] <;> rfl) | (simp [*, errW_none, errW_some] <;> rfl), zv7 HB.out⟩

/-! ### impl_WideOf: function 49 -/
def impl_WideOf.f (a0 : Int) : Option (Int × Int) := some (a0 / 9223372036854775808, IntKind.u64.wrap (a0))
set_option maxHeartbeats 8000000 in
set_option maxRecDepth 100000 in
theorem impl_WideOf.calls (a0 : Int) (r1 : Int) (r2 : Int) (w : World) (h : impl_WideOf.f a0 = some (r1, r2)) :
  Calls Try.prog 49 #[.int .i64 a0] w fun e w' => e = .returned (.agg #[.int .i64 r1, .int .u64 r2]) ∧ Below w.heap.size w w' := by
 have be := Try.underlying30
 have HB := zp.mk (Below.refl w.heap.size w)
 have H : (some (a0 / 9223372036854775808, IntKind.u64.wrap (a0))) = some (r1, r2) := h
 clear h
 simp only [Option.some.injEq, Prod.mk.injEq] at H
 obtain ⟨rfl, rfl⟩ := H
 go_enter Try.func49, Try.ntmps49
 go_wp2_with (first | ((with_reducible refine zo (N := 2) rfl ?_); refine zm ?hg (N := 2) ?hd (cs := #[.int .i64 0, .int .u64 0]) (t := 30) ?hr ?_; (case hd => rfl); (case hg => rfl); (case hr => first | (go_simp; done) | (go_simp; rfl)); intro bf hg w2 hbox hb; have aJ := zp.mk (hbox); have bv := zp.mk ((zv3 (zv6 HB.out) hg)); have bo := zp.mk ((zv3 (zv6 HB.out) hg)); replace HB := zp.mk (zj (zv6 HB.out) hb); clear hb hbox hg; have bJ := zt0 aJ.out; have bH := zt1 aJ.out; have bA := zd aJ.out 0; have bL := zd aJ.out 1))
 refine bodyPost_ret (results_cell_row rfl _ _ bf 30 #[.int .i64 (a0 / 9223372036854775808), .int .u64 (IntKind.u64.wrap (a0))] (0, 0) _ rfl (by (with_reducible repeat (first | refine zf ?_ _ | refine zi ?_ | refine zg ?_ _)); refine blk_put (cs := #[.int .i64 (a0 / 9223372036854775808), .int .u64 0]) ?_ 1 _ rfl; (with_reducible repeat (first | refine zf ?_ _ | refine zi ?_ | refine zg ?_ _)); refine blk_put (cs := #[.int .i64 0, .int .u64 0]) ?_ 0 _ rfl; (with_reducible repeat (first | refine zf ?_ _ | refine zi ?_ | refine zg ?_ _)); exact aJ.out) Try.underlying30 rfl (by kernel_rfl)) rfl ?_
 exact ⟨by first | rfl | (simp [errW_none, errW_some] <;> rfl) | (simp [*, errW_none, errW_some] <;> rfl), zv7 HB.out⟩

end Go.Proofs.Ytnnahpmnkpmopaa.QFnExactAggJoin
