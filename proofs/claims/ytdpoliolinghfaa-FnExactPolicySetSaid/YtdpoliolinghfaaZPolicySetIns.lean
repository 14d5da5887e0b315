/- Proved: slices.Insert of one element ahead of the end of a slice of the call's own, whose elements are four cells each: both roads (room, no room). The conditions stand in the statement. -/
import Derived.Test.YtdpoliolinghfaaZPolicySetDel
import Derived.Shelf.Spec.SlicesInsert
import Derived.Lib.AppendZerosOnto
import Derived.Lib.AppendZeros
import Derived.Lib.Overlaps
import Derived.Laws.Externs
import Derived.Laws.IdiomCopy
namespace Go.Proofs.Ytdpoliolinghfaa.Ins
open Go Go.Shelf Go.RowKit Go.Lib Go.Sort Go.Proofs
set_option linter.unusedVariables false
set_option linter.unusedSimpArgs false
theorem run_copy_size {P : Program} (w : World) (dT sT ty elem : TypeId) (size b o dLen dCap : Nat) (a : Addr) (sLen sCap m : Nat) (cs : List Value)
    (hu : P.underlying dT = some (.slice elem)) (hs : (P.info? elem).map (·.size) = some size) (hm : Nat.min sLen dLen = m) (hn : cs.length = m * size)
    (hsrc : ∀ j v, cs[j]? = some v → w.cell? (a.add j) = some v) (hc : ∀ j, j < cs.length → (w.cell? ⟨b, o + j, none⟩).isSome = true) (hf : ∀ j, j < cs.length → w.frozen? ⟨b, o + j, none⟩ = false) (h1 : ∀ v ∈ cs, v.oneCell' = true) :
    (Builtin.copy_ #[dT, sT] ty #[.slice (some ⟨b, o, none⟩) dLen dCap, .slice (some a) sLen sCap]).run P w = .ok (goInt m) (w.setCells b o cs) := by
  have hl := run_loadCells_list (P := P) w a cs hsrc
  have hst := run_storeCells_cells (P := P) b o cs 0 w (by simpa using hc) (by simpa using hf) h1
  cases hq : P.info? elem with
  | none => simp [hq] at hs
  | some i =>
    have hi : i.size = size := by simpa [hq] using hs
    simp [Builtin.copy_, run_underlying hu, Builtin.lenOf, Builtin.firstCells, sizeOf, typeInfo, hq, hi, hm, ← hn, hl, hst]
theorem zero4_one (n : Nat) : ∀ u ∈ (Builtin.zeroCells (Value.agg #[(.int .i64 0), (.int .i64 0), (.int .i64 0), (.int .i64 0)]).cells n).toList, u.oneCell' = true := by
  intro u hu
  simp only [Builtin.zeroCells, Value.cells, Array.toList_map, List.mem_map] at hu
  obtain ⟨q, _, rfl⟩ := hu
  have hq : q % 4 < 4 := Nat.mod_lt _ (by decide)
  show ((#[(.int .i64 0), (.int .i64 0), (.int .i64 0), (.int .i64 0)] : Array Value)[q % 4]!).oneCell' = true
  rcases (show q % 4 = 0 ∨ q % 4 = 1 ∨ q % 4 = 2 ∨ q % 4 = 3 by omega) with e | e | e | e <;> rw [e] <;> rfl
theorem splice {cur cells vs : List Value} {i n : Nat} (hl : cells.length = n * 4) (hv : vs.length = 4) (hi : i < n) (hc : (n + 1) * 4 ≤ cur.length) (ht : cur.take (i * 4) = cells.take (i * 4)) :
    (((cur.take ((i + 1) * 4) ++ cells.drop (i * 4) ++ cur.drop ((i + 1) * 4 + (cells.drop (i * 4)).length)).take (i * 4) ++ vs ++ (cur.take ((i + 1) * 4) ++ cells.drop (i * 4) ++ cur.drop ((i + 1) * 4 + (cells.drop (i * 4)).length)).drop (i * 4 + vs.length)).take ((n + 1) * 4)) = cells.take (i * 4) ++ vs ++ cells.drop (i * 4) := by
  have e1 : (cur.take ((i + 1) * 4)).length = (i + 1) * 4 := by rw [List.length_take]; omega
  have e2 : (cells.drop (i * 4)).length = (n - i) * 4 := by rw [List.length_drop]; omega
  obtain ⟨D, hD⟩ : ∃ D, D = cells.drop (i * 4) := ⟨_, rfl⟩
  rw [← hD] at e2 ⊢
  rw [List.append_assoc (cur.take ((i + 1) * 4)), List.take_append_of_le_length (l₁ := cur.take ((i + 1) * 4)) (by omega), List.take_take, Nat.min_eq_left (by omega), ht, List.drop_append, List.drop_of_length_le (by omega), List.nil_append, e1, hv, show i * 4 + 4 - (i + 1) * 4 = 0 by omega, List.drop_zero, ← List.append_assoc]
  have e3 : (cells.take (i * 4) ++ vs ++ D).length = (n + 1) * 4 := by simp only [List.length_append, List.length_take, e2, hv, hl]; omega
  rw [List.take_append_of_le_length (by omega), List.take_of_length_le (by omega)]
set_option maxHeartbeats 4000000 in
set_option maxRecDepth 1000000 in
/-- There is room. -/
theorem shift_calls (base g n cap i vb : Nat) (cells : List Value) (va : Array Value) (w : World) (ho : w.ownsRow base 58 4 (.slice (some ⟨g, 0, none⟩) n cap) n cells) (h1 : ∀ u ∈ cells, u.oneCell' = true) (hi : i < n) (hroom : n + 1 ≤ cap)
    (hvb : w.heap[vb]? = some (.cells va 58 (0, 0))) (hvs : va.size = 4) (h1v : ∀ u ∈ va.toList, u.oneCell' = true) (hne : vb ≠ g) :
    Calls Try.prog 114 #[.slice (some ⟨g, 0, none⟩) n cap, .int .i64 i, .slice (some ⟨vb, 0, none⟩) 1 1] w fun e w' => e = .returned (.slice (some ⟨g, 0, none⟩) (n + 1) cap) ∧ w'.ownsRow base 58 4 (.slice (some ⟨g, 0, none⟩) (n + 1) cap) (n + 1) (cells.take (i * 4) ++ va.toList ++ cells.drop (i * 4)) ∧ w.grownBy w' (some g) := by
  rcases ho.2 with ⟨h0, _⟩ | ⟨g', cap', cur, hv, hbase, hgb, r1, r2, r3, r4⟩
  · cases h0
  cases hv
  have hm : maxLen = 9223372036854775807 := rfl
  have hcl : cells.length = n * 4 := ho.1
  have hinf : (Try.prog.info? 58).map (fun i => (i.zero, i.size, i.bytes)) = some (some (.agg #[(.int .i64 0), (.int .i64 0), (.int .i64 0), (.int .i64 0)]), 4, 32) := by kernel_rfl
  obtain ⟨i0, hi0, _, hz1, _⟩ := info_parts hinf
  have hsz : (Try.prog.info? 58).map (·.size) = some 4 := by rw [hi0]; simp [hz1]
  have mixed : Try.prog.follows .mixedOrders = true := by kernel_rfl
  have t64 := Try.underlying64
  have z58 : ∀ w, (Go.sizeOf 58).run Try.prog w = .ok 4 w := fun w => by simp [Go.sizeOf, typeInfo, hi0, hz1]
  have hsa : ∀ w' : World, w'.heap[vb]? = w.heap[vb]? → w'.shape? vb = some (58, 4) := fun w' h => by simp [World.shape?, h, hvb, hvs]
  have hov : ∀ (w' : World), w'.heap = w.heap → ∀ lb cb, (callFunc 117 #[.slice (some ⟨vb, 0, none⟩) 1 1, .slice (some ⟨g, (i + 1) * 4, none⟩) lb cb]).run Try.prog w' = .ok (.value (.bool false)) w' := fun w' hw lb cb => by
    rw [run_callFunc_extern Try.func117 (by kernel_rfl) (by kernel_rfl) (by kernel_rfl) (e := Extern.SlicesOverlaps.overlaps #[64, 64] #[4]) (by kernel_rfl),
      Lib.run_overlaps_apart w' 64 4 58 t64 4 z58 ⟨vb, 0, none⟩ ⟨g, (i + 1) * 4, none⟩ 1 1 lb cb hne 58 58 4 cur.size (hsa w' (by rw [hw])) (by simp [World.shape?, hw, hgb]) (by omega) (Del.frozen_of_cur (cur := va) (e := 58) (by rw [hw]; exact hvb)) (Del.frozen_of_cur (cur := va) (e := 58) (by rw [hw]; exact hvb))]
    rfl
  have hgd : w.drew.heap[g]? = some (.cells cur 58 (0, 0)) := hgb
  have hdl : (cells.drop (i * 4)).length = (n - i) * 4 := by rw [List.length_drop, hcl]; omega
  have hcur : ∀ t, t < n * 4 → cur.toList[t]? = cells[t]? := fun t ht => by rw [← r4, List.getElem?_take_of_lt ht]
  have hcp1 : ∀ (W : World), W.heap = w.heap → ∀ ty dc sc, (Builtin.copy_ #[64, 64] ty #[.slice (some ⟨g, (i + 1) * 4, none⟩) (n - i) dc, .slice (some ⟨g, i * 4, none⟩) (n + 1 - i) sc]).run Try.prog W = .ok (goInt ((n - i : Nat) : Int)) (W.setCells g ((i + 1) * 4) (cells.drop (i * 4))) := fun W hW ty dc sc =>
    run_copy_size W _ _ ty 58 4 g ((i + 1) * 4) (n - i) dc ⟨g, i * 4, none⟩ (n + 1 - i) sc (n - i) (cells.drop (i * 4)) t64 hsz (by simp only [Nat.min_def]; split <;> omega) hdl
      (fun j v hj => by
        have hlt := (List.getElem?_eq_some_iff.1 hj).1
        rw [Addr.add_lit, Del.cell_of_cur (cur := cur) (e := 58) (by rw [hW]; exact hgb), hcur _ (by omega)]
        rwa [List.getElem?_drop] at hj)
      (fun j hj => by rw [Del.cell_of_cur (cur := cur) (e := 58) (by rw [hW]; exact hgb), List.getElem?_eq_getElem (by rw [Array.length_toList]; omega)]; rfl)
      (fun j hj => Del.frozen_of_cur (cur := cur) (e := 58) (by rw [hW]; exact hgb)) (fun v hv => h1 v (List.mem_of_mem_drop hv))
  obtain ⟨cur1, hc1, hs1, hl1⟩ := Del.heap_setCells_row (cells.drop (i * 4)) ((i + 1) * 4) w.drew cur hgd (by omega)
  obtain ⟨W1, hW1⟩ : ∃ W1, W1 = w.drew.setCells g ((i + 1) * 4) (cells.drop (i * 4)) := ⟨_, rfl⟩
  rw [← hW1] at hc1
  have hg1 : w.grownBy W1 (some g) := by
    rw [hW1]
    exact (⟨rfl, rfl, rfl, Nat.le_refl _, fun _ _ _ => rfl⟩ : w.grownBy w.drew (some g)).trans (Del.grownBy_setCells w.drew g _ _)
  have hvb1 : W1.heap[vb]? = some (.cells va 58 (0, 0)) := by
    rw [hg1.block vb (Array.getElem?_eq_some_iff.1 hvb).1 (by simpa using hne)]
    exact hvb
  have hcp2 : ∀ (W : World), W.heap = W1.heap → ∀ ty dc, (Builtin.copy_ #[64, 64] ty #[.slice (some ⟨g, i * 4, none⟩) (n + 1 - i) dc, .slice (some ⟨vb, 0, none⟩) 1 1]).run Try.prog W = .ok (goInt 1) (W.setCells g (i * 4) va.toList) := fun W hW ty dc =>
    run_copy_size W _ _ ty 58 4 g (i * 4) (n + 1 - i) dc ⟨vb, 0, none⟩ 1 1 1 va.toList t64 hsz (by simp only [Nat.min_def]; split <;> omega) (by rw [Array.length_toList, hvs])
      (fun j v hj => by
        rw [Addr.add_lit, Del.cell_of_cur (cur := va) (e := 58) (by rw [hW]; exact hvb1), Nat.zero_add]
        exact hj)
      (fun j hj => by rw [Array.length_toList, hvs] at hj; rw [Del.cell_of_cur (cur := cur1) (e := 58) (by rw [hW]; exact hc1), List.getElem?_eq_getElem (by rw [Array.length_toList]; omega)]; rfl)
      (fun j hj => Del.frozen_of_cur (cur := cur1) (e := 58) (by rw [hW]; exact hc1)) h1v
  have fin : ∀ (W : World), W.heap = W1.heap → W.os = W1.os → W.tape = W1.tape → W.output = W1.output → (W.setCells g (i * 4) va.toList).ownsRow base 58 4 (.slice (some ⟨g, 0, none⟩) (n + 1) cap) (n + 1) (cells.take (i * 4) ++ va.toList ++ cells.drop (i * 4)) ∧ w.grownBy (W.setCells g (i * 4) va.toList) (some g) := by
    intro W hh ha hb hc
    obtain ⟨cur2, hc2, hs2, hl2⟩ := Del.heap_setCells_row va.toList (i * 4) W cur1 (by rw [hh]; exact hc1) (by rw [Array.length_toList]; omega)
    refine ⟨⟨?_, .inr ⟨g, cap, cur2, rfl, hbase, hc2, by omega, r2, by rw [hs2, hs1, r3], ?_⟩⟩, ?_⟩
    · rw [List.length_append, List.length_append, List.length_take, hdl, hcl, Array.length_toList, hvs]; omega
    · rw [hl2, hl1]
      exact splice hcl (by rw [Array.length_toList, hvs]) hi (by rw [Array.length_toList]; omega) (by rw [← r4, List.take_take, Nat.min_eq_left (by omega)])
    · have : w.grownBy W (some g) := ⟨ha.trans hg1.os, hb.trans hg1.tape, hc.trans hg1.output, by rw [hh]; exact hg1.size, fun k hk hn => by rw [hh]; exact hg1.block k hk hn⟩
      exact this.trans (Del.grownBy_setCells _ g _ _)
  have hz1 : ¬ (((1 : Nat) : Int) = 0) := by omega
  have hz2 : ¬ ((i : Int) = (n : Int)) := by omega
  have hic : i < cap := by omega
  have hin : i ≤ n := by omega
  have hb1 : (0 : Int) ≤ (i : Int) + 1 := by omega
  have hb3 : (i : Int) ≤ (n : Int) + 1 := by omega
  have hb5 : (i : Int) + 1 ≤ (n : Int) + 1 := by omega
  have hb2 : ¬ (cap = i + 1) := by omega
  have hb4 : ¬ (cap = i) := by omega
  have hw1 : IntKind.i64.wrap ((i : Int) + 1) = ((i + 1 : Nat) : Int) := by rw [IntKind.wrap_i64]; omega
  have hw2 : IntKind.i64.wrap ((n : Int) + 1) = ((n + 1 : Nat) : Int) := by rw [IntKind.wrap_i64]; omega
  have FIN : Hid _ := fin
  have hW : Hid (W1 = w.drew.setCells g ((i + 1) * 4) (cells.drop (i * 4))) := hW1
  clear hW1 fin hbase hgb hgd ho h1 r4 h1v hl1 hs1 hc1 hvb hvs hcur hsa z58 hi0 hz1 hinf hg1 hvb1
  go_enter Try.func114, Try.ntmps114
  go_wp2_with (simp only [hov _ rfl])
  go_region_law_o (refine step_copy_runI rfl _ _ 64 64 rfl (.slice (some ⟨g, (i + 1) * 4, none⟩) (n - i) (cap - (i + 1))) (.slice (some ⟨g, i * 4, none⟩) (n + 1 - i) (cap - i)) (by simp [Act.eval, Act.put]) (by simp [Act.eval, Act.put]) (hcp1 w.drew rfl 3 (cap - (i + 1)) (cap - i)) ?_; rw [← hW.out])
  go_wp2_with (at_builtin; refine wpList_copy_runI _ rfl _ _ 64 64 rfl _ _ rfl rfl (hcp2 _ rfl _ _) ?_)
  go_ret
  exact ⟨rfl, FIN _ rfl rfl rfl rfl⟩
theorem splice2 {cur cells vs : List Value} {i n : Nat} (hl : cells.length = n * 4) (hv : vs.length = 4) (hi : i < n) (hc : (n + 1) * 4 ≤ cur.length) (ht : cur.take (i * 4) = cells.take (i * 4)) :
    (((cur.take (i * 4) ++ vs ++ cur.drop (i * 4 + vs.length)).take ((i + 1) * 4) ++ cells.drop (i * 4) ++ (cur.take (i * 4) ++ vs ++ cur.drop (i * 4 + vs.length)).drop ((i + 1) * 4 + (cells.drop (i * 4)).length)).take ((n + 1) * 4)) = cells.take (i * 4) ++ vs ++ cells.drop (i * 4) := by
  have e2 : (cells.drop (i * 4)).length = (n - i) * 4 := by rw [List.length_drop]; omega
  have e1 : (cells.take (i * 4) ++ vs).length = (i + 1) * 4 := by rw [List.length_append, List.length_take, hv]; omega
  rw [ht, List.take_append_of_le_length (l₁ := cells.take (i * 4) ++ vs) (by omega), List.take_of_length_le (l := cells.take (i * 4) ++ vs) (by omega)]
  rw [List.take_append_of_le_length (by rw [List.length_append, e1, e2]; omega), List.take_of_length_le (by rw [List.length_append, e1, e2]; omega)]
set_option maxHeartbeats 4000000 in
set_option maxRecDepth 1000000 in
/-- There is no room. -/
theorem grow_calls (base g n cap i vb : Nat) (cells : List Value) (va : Array Value) (w : World) (hbw : base ≤ w.heap.size) (ho : w.ownsRow base 58 4 (.slice (some ⟨g, 0, none⟩) n cap) n cells) (h1 : ∀ u ∈ cells, u.oneCell' = true) (hi : i < n) (hroom : cap < n + 1) (hbig : (n + 1) * 32 ≤ 140737488355328)
    (hvb : w.heap[vb]? = some (.cells va 58 (0, 0))) (hvs : va.size = 4) (h1v : ∀ u ∈ va.toList, u.oneCell' = true) :
    Calls Try.prog 114 #[.slice (some ⟨g, 0, none⟩) n cap, .int .i64 i, .slice (some ⟨vb, 0, none⟩) 1 1] w fun e w' => ∃ G, e = .returned (.slice (some ⟨w.heap.size, 0, none⟩) (n + 1) G) ∧ w'.ownsRow base 58 4 (.slice (some ⟨w.heap.size, 0, none⟩) (n + 1) G) (n + 1) (cells.take (i * 4) ++ va.toList ++ cells.drop (i * 4)) ∧ w.grownBy w' none := by
  rcases ho.2 with ⟨h0, _⟩ | ⟨g', cap', cur, hv, hbase, hgb, r1, r2, r3, r4⟩
  · cases h0
  cases hv
  have hm : maxLen = 9223372036854775807 := rfl
  have hcl : cells.length = n * 4 := ho.1
  have hinf : (Try.prog.info? 58).map (fun i => (i.zero, i.size, i.bytes)) = some (some (.agg #[(.int .i64 0), (.int .i64 0), (.int .i64 0), (.int .i64 0)]), 4, 32) := by kernel_rfl
  obtain ⟨i0, hi0, hz0, hzs, hzb⟩ := info_parts hinf
  have hsz : (Try.prog.info? 58).map (·.size) = some 4 := by rw [hi0]; simp [hzs]
  have mixed : Try.prog.follows .mixedOrders = true := by kernel_rfl
  have t64 := Try.underlying64
  have t3 : Try.prog.underlying 3 = some (.int .i64) := by kernel_rfl
  have hgl : g < w.heap.size := (Array.getElem?_eq_some_iff.1 hgb).1
  have hvl : vb < w.heap.size := (Array.getElem?_eq_some_iff.1 hvb).1
  have hkk : (n : Int) + 1 - (i : Int) = ((n + 1 - i : Nat) : Int) := by omega
  have hik : i + (n + 1 - i) = n + 1 := by omega
  have hcur : ∀ t, t < n * 4 → cur.toList[t]? = cells[t]? := fun t ht => by rw [← r4, List.getElem?_take_of_lt ht]
  have hold : (Builtin.firstCells i0.size i (.slice (some ⟨g, 0, none⟩) i cap)).run Try.prog w.drew = .ok (cells.take (i * 4)).toArray w.drew := by
    rw [hzs]
    exact run_firstCells_some w.drew 4 i ⟨g, 0, none⟩ i cap (cells.take (i * 4)) (by rw [List.length_take]; omega) (fun j v hj => by
      rw [Addr.add_lit, Nat.zero_add, Del.cell_of_cur (w := w.drew) (cur := cur) (e := 58) hgb]
      rw [List.getElem?_take] at hj
      split at hj
      · rw [hcur _ (by omega)]; exact hj
      · cases hj)
  have hrz : ∀ ty, (Builtin.append_ #[64, 3] ty #[.slice (some ⟨g, 0, none⟩) i cap, .int .i64 ((n : Int) + 1 - (i : Int))]).run Try.prog w =
      .ok (.slice (some ⟨w.heap.size, 0, none⟩) (n + 1) (grownCap w (n + 1) cap 58)) (w.drew.alloc (.cells ((cells.take (i * 4)).toArray ++ Builtin.zeroCells (Value.agg #[(.int .i64 0), (.int .i64 0), (.int .i64 0), (.int .i64 0)]).cells (n + 1 - i) ++ Builtin.zeroCells (Value.agg #[(.int .i64 0), (.int .i64 0), (.int .i64 0), (.int .i64 0)]).cells (grownCap w (n + 1) cap 58 - (n + 1))) 58)) := fun ty => by
    have h := Lib.run_append_grow_zeros w 64 3 ty 58 i0 _ .i64 .i64 t64 t3 hi0 hz0 (some ⟨g, 0, none⟩) i cap (cells.take (i * 4)) hold (n + 1 - i) (by omega) (by omega) (by omega) (by omega) (by rw [hzb]; omega) (by rw [hzb, hik]; exact growslice_fits hroom hbig)
    rw [hik] at h
    rw [hkk]
    exact h
  have hG63 := grownCap_le_maxLen w (n + 1) cap 58 (by unfold maxLen; omega)
  have hGn := grownCap_ge w (n + 1) cap 58
  generalize hG : grownCap w (n + 1) cap 58 = G at hrz hG63 hGn
  obtain ⟨ROW, hROW⟩ : ∃ ROW : Array Value, ROW = (cells.take (i * 4)).toArray ++ Builtin.zeroCells (Value.agg #[(.int .i64 0), (.int .i64 0), (.int .i64 0), (.int .i64 0)]).cells (n + 1 - i) ++ Builtin.zeroCells (Value.agg #[(.int .i64 0), (.int .i64 0), (.int .i64 0), (.int .i64 0)]).cells (G - (n + 1)) := ⟨_, rfl⟩
  rw [← hROW] at hrz
  have hRl : ROW.size = G * 4 := by
    rw [hROW]
    simp [Builtin.zeroCells, Value.cells]
    omega
  have hRt : ROW.toList.take (i * 4) = cells.take (i * 4) := by
    rw [hROW, Array.toList_append, Array.toList_append, List.append_assoc, List.take_append_of_le_length (by simp; omega), List.take_of_length_le (by simp; omega)]
  obtain ⟨N, hN⟩ : ∃ N, N = w.heap.size := ⟨_, rfl⟩
  have hW1r : (w.drew.alloc (.cells ROW 58)).heap[N]? = some (.cells ROW 58 (0, 0)) := by rw [hN]; exact heap_alloc_new w.drew _
  have hW1g : (w.drew.alloc (.cells ROW 58)).heap[g]? = some (.cells cur 58 (0, 0)) := by rw [heap_alloc_old w.drew _ hgl]; exact hgb
  have hW1v : (w.drew.alloc (.cells ROW 58)).heap[vb]? = some (.cells va 58 (0, 0)) := by rw [heap_alloc_old w.drew _ hvl]; exact hvb
  obtain ⟨cur1, hc1, hs1, hl1⟩ := Del.heap_setCells_row va.toList (i * 4) _ ROW hW1r (by rw [Array.length_toList, hvs, hRl]; omega)
  have hg1 : (w.drew.alloc (.cells ROW 58)).grownBy ((w.drew.alloc (.cells ROW 58)).setCells N (i * 4) va.toList) (some N) := Del.grownBy_setCells _ N _ _
  have hW2g : ((w.drew.alloc (.cells ROW 58)).setCells N (i * 4) va.toList).heap[g]? = some (.cells cur 58 (0, 0)) := by
    rw [hg1.block g (Array.getElem?_eq_some_iff.1 hW1g).1 (by rw [hN]; simp; omega)]; exact hW1g
  have hdl : (cells.drop (i * 4)).length = (n - i) * 4 := by rw [List.length_drop, hcl]; omega
  have hcpA : ∀ (W : World), W.heap = (w.drew.alloc (.cells ROW 58)).heap → ∀ ty dc, (Builtin.copy_ #[64, 64] ty #[.slice (some ⟨N, i * 4, none⟩) (n + 1 - i) dc, .slice (some ⟨vb, 0, none⟩) 1 1]).run Try.prog W = .ok (goInt 1) (W.setCells N (i * 4) va.toList) := fun W hW ty dc =>
    run_copy_size W _ _ ty 58 4 N (i * 4) (n + 1 - i) dc ⟨vb, 0, none⟩ 1 1 1 va.toList t64 hsz (by simp only [Nat.min_def]; split <;> omega) (by rw [Array.length_toList, hvs])
      (fun j v hj => by
        rw [Addr.add_lit, Del.cell_of_cur (cur := va) (e := 58) (by rw [hW]; exact hW1v), Nat.zero_add]
        exact hj)
      (fun j hj => by rw [Array.length_toList, hvs] at hj; rw [Del.cell_of_cur (cur := ROW) (e := 58) (by rw [hW]; exact hW1r), List.getElem?_eq_getElem (by rw [Array.length_toList]; omega)]; rfl)
      (fun j hj => Del.frozen_of_cur (cur := ROW) (e := 58) (by rw [hW]; exact hW1r)) h1v
  obtain ⟨W2, hW2⟩ : ∃ W2, W2 = (w.drew.alloc (.cells ROW 58)).setCells N (i * 4) va.toList := ⟨_, rfl⟩
  rw [← hW2] at hc1 hW2g hg1
  have hcpB : ∀ (W : World), W.heap = W2.heap → ∀ ty dc sc, (Builtin.copy_ #[64, 64] ty #[.slice (some ⟨N, (i + 1) * 4, none⟩) (n + 1 - (i + 1)) dc, .slice (some ⟨g, i * 4, none⟩) (n - i) sc]).run Try.prog W = .ok (goInt ((n - i : Nat) : Int)) (W.setCells N ((i + 1) * 4) (cells.drop (i * 4))) := fun W hW ty dc sc =>
    run_copy_size W _ _ ty 58 4 N ((i + 1) * 4) (n + 1 - (i + 1)) dc ⟨g, i * 4, none⟩ (n - i) sc (n - i) (cells.drop (i * 4)) t64 hsz (by simp only [Nat.min_def]; split <;> omega) hdl
      (fun j v hj => by
        have hlt := (List.getElem?_eq_some_iff.1 hj).1
        rw [Addr.add_lit, Del.cell_of_cur (cur := cur) (e := 58) (by rw [hW]; exact hW2g), hcur _ (by omega)]
        rwa [List.getElem?_drop] at hj)
      (fun j hj => by rw [Del.cell_of_cur (cur := cur1) (e := 58) (by rw [hW]; exact hc1), List.getElem?_eq_getElem (by rw [Array.length_toList]; omega)]; rfl)
      (fun j hj => Del.frozen_of_cur (cur := cur1) (e := 58) (by rw [hW]; exact hc1)) (fun v hv => h1 v (List.mem_of_mem_drop hv))
  have fin : ∀ (W : World), W.heap = W2.heap → W.os = W2.os → W.tape = W2.tape → W.output = W2.output → (W.setCells N ((i + 1) * 4) (cells.drop (i * 4))).ownsRow base 58 4 (.slice (some ⟨N, 0, none⟩) (n + 1) G) (n + 1) (cells.take (i * 4) ++ va.toList ++ cells.drop (i * 4)) ∧ w.grownBy (W.setCells N ((i + 1) * 4) (cells.drop (i * 4))) none := by
    intro W hh ha hb hc
    obtain ⟨cur2, hc2, hs2, hl2⟩ := Del.heap_setCells_row (cells.drop (i * 4)) ((i + 1) * 4) W cur1 (by rw [hh]; exact hc1) (by omega)
    refine ⟨⟨?_, .inr ⟨N, G, cur2, rfl, by omega, hc2, hGn, hG63, by rw [hs2, hs1, hRl], ?_⟩⟩, ?_⟩
    · rw [List.length_append, List.length_append, List.length_take, hdl, hcl, Array.length_toList, hvs]; omega
    · rw [hl2, hl1]
      exact splice2 hcl (by rw [Array.length_toList, hvs]) hi (by rw [Array.length_toList]; omega) hRt
    · have e0 : w.grownBy (w.drew.alloc (.cells ROW 58)) (some N) := (⟨rfl, rfl, rfl, Nat.le_refl _, fun _ _ _ => rfl⟩ : w.grownBy w.drew (some N)).trans (World.grownBy_alloc w.drew _ _)
      have e1 := e0.trans hg1
      have e2 : w.grownBy W (some N) := ⟨ha.trans e1.os, hb.trans e1.tape, hc.trans e1.output, by rw [hh]; exact e1.size, fun k hk hn => by rw [hh]; exact e1.block k hk hn⟩
      have e3 := e2.trans (Del.grownBy_setCells W N ((i + 1) * 4) (cells.drop (i * 4)))
      exact ⟨e3.os, e3.tape, e3.output, e3.size, fun k hk _ => e3.block k hk (by intro he; injection he with he; omega)⟩
  have hz1 : ¬ (((1 : Nat) : Int) = 0) := by omega
  have hz2 : ¬ ((i : Int) = (n : Int)) := by omega
  have hz3 : (cap : Int) < (n : Int) + 1 := by omega
  have hw1 : IntKind.i64.wrap ((i : Int) + 1) = (i : Int) + 1 := by rw [IntKind.wrap_i64]; omega
  have hw2 : ((i : Int) + 1).toNat = i + 1 := by omega
  have hin : i ≤ n := by omega
  have hic : i < cap := by omega
  have hb1 : (0 : Int) ≤ (i : Int) + 1 := by omega
  have hb3 : (i : Int) ≤ (n : Int) := by omega
  have hb4 : ¬ (cap = i) := by omega
  have hb5 : (i : Int) + 1 ≤ (n : Int) + 1 := by omega
  have hGi : ¬ (G = i) := by omega
  have hGim : ¬ (G = i + 1) := by omega
  have FIN : Hid _ := fin
  have hW : Hid (W2 = (w.drew.alloc (.cells ROW 58)).setCells N (i * 4) va.toList) := hW2
  clear hW2 fin hbase hgb ho h1 r4 h1v hl1 hs1 hc1 hvb hvs hcur hi0 hzs hz0 hzb hinf hg1 hW1r hW1g hW1v hW2g hold hROW hkk hik hG hRl hRt hgl hvl hbw
  rw [← hN] at hrz ⊢
  clear hN
  have hcpA' := hcpA (w.alloc (.cells ROW 58)).drew rfl
  clear hcpA
  go_enter Try.func114, Try.ntmps114
  go_wp2_with (first
    | (at_builtin; refine Lib.wpList_append_run _ rfl _ _ _ _ rfl _ _ rfl rfl _ _ (hrz _) ?_))
  go_region_law_o (refine step_copy_runI rfl _ _ 64 64 rfl (.slice (some ⟨N, (i + 1) * 4, none⟩) (n + 1 - (i + 1)) (G - (i + 1))) (.slice (some ⟨g, i * 4, none⟩) (n - i) (cap - i)) (by simp [Act.eval, Act.put]) (by simp [Act.eval, Act.put]) (hcpB _ (by rw [hW.out]; rfl) 3 (G - (i + 1)) (cap - i)) ?_)
  go_wp2
  go_ret
  exact ⟨G, rfl, FIN _ (by rw [hW.out]; rfl) (by rw [hW.out]; rfl) (by rw [hW.out]; rfl) (by rw [hW.out]; rfl)⟩
set_option maxHeartbeats 4000000 in
set_option maxRecDepth 1000000 in
/-- At the end. -/
theorem end_calls (base n cap vb : Nat) (A : Option Addr) (cells : List Value) (va : Array Value) (w : World) (hbw : base ≤ w.heap.size) (ho : w.ownsRow base 58 4 (.slice A n cap) n cells) (hbig : (n + 1) * 32 ≤ 140737488355328)
    (hvb : w.heap[vb]? = some (.cells va 58 (0, 0))) (hvs : va.size = 4) (h1v : ∀ u ∈ va.toList, u.oneCell' = true) :
    Calls Try.prog 114 #[.slice A n cap, .int .i64 n, .slice (some ⟨vb, 0, none⟩) 1 1] w fun e w' => ∃ v, e = .returned v ∧ w'.ownsRow base 58 4 v (n + 1) (cells ++ va.toList) ∧ w.grownBy w' (Value.slice A n cap).ownBlock := by
  have hm : maxLen = 9223372036854775807 := rfl
  have hinf : (Try.prog.info? 58).map (fun i => (i.zero, i.size, i.bytes)) = some (some (.agg #[(.int .i64 0), (.int .i64 0), (.int .i64 0), (.int .i64 0)]), 4, 32) := by kernel_rfl
  obtain ⟨i0, hi0, hz0, hzs, hzb⟩ := info_parts hinf
  have mixed : Try.prog.follows .mixedOrders = true := by kernel_rfl
  have t64 := Try.underlying64
  obtain ⟨v', w', hr, hown, hg, _⟩ := run_append_own (P := Try.prog) w base 64 64 58 i0 _ 4 32 t64 hi0 hz0 hzs hzb rfl (by decide) _ n cells ho ⟨vb, 0, none⟩ 1 1 va.toList (by rw [Array.length_toList, hvs])
    (fun j u hu => by rw [Addr.add_lit, Nat.zero_add, Del.cell_of_cur (cur := va) (e := 58) hvb]; exact hu) h1v (by omega) (by omega) hbw
  have hnc : n ≤ cap := by
    rcases ho.2 with ⟨e, _⟩ | ⟨g', cap', cur, e, _, _, r1, _⟩
    · cases e; omega
    · cases e; exact r1
  have HG : Hid _ := hg
  have HO : Hid _ := hown
  have hin : (n : Int) ≤ n := by omega
  have hz1 : ¬ (((1 : Nat) : Int) = 0) := by omega
  clear hg hown ho hi0 hz0 hzs hzb hinf hvb hvs h1v
  go_enter Try.func114, Try.ntmps114
  go_wp2_with (at_builtin; refine Lib.wpList_append_run _ rfl _ _ _ _ rfl _ _ rfl rfl _ _ hr ?_)
  all_goals (go_ret; first | exact ⟨v', rfl, HO, HG⟩ | (cases A <;> exact ⟨v', rfl, HO, HG⟩))
/-- slices.Insert of one element. -/
theorem insert_calls (base n cap i vb : Nat) (A : Option Addr) (cells : List Value) (va : Array Value) (w : World) (hbw : base ≤ w.heap.size) (ho : w.ownsRow base 58 4 (.slice A n cap) n cells) (h1 : ∀ u ∈ cells, u.oneCell' = true) (hi : i ≤ n) (hbig : (n + 1) * 32 ≤ 140737488355328)
    (hvb : w.heap[vb]? = some (.cells va 58 (0, 0))) (hvs : va.size = 4) (h1v : ∀ u ∈ va.toList, u.oneCell' = true) (hne : some vb ≠ (Value.slice A n cap).ownBlock) :
    Calls Try.prog 114 #[.slice A n cap, .int .i64 i, .slice (some ⟨vb, 0, none⟩) 1 1] w fun e w' => ∃ (v : Value) (row : Option Nat), e = .returned v ∧ w'.ownsRow base 58 4 v (n + 1) (cells.take (i * 4) ++ va.toList ++ cells.drop (i * 4)) ∧ w.grownBy w' row ∧ ∀ q, row = some q → base ≤ q := by
  have hcl : cells.length = n * 4 := ho.1
  by_cases c : i = n
  · subst c
    refine (end_calls base i cap vb A cells va w hbw ho hbig hvb hvs h1v).mono ?_
    rintro e w' ⟨v, rfl, h2, h3⟩
    refine ⟨v, _, rfl, ?_, h3, fun q hq => (ho.lt q hq).1⟩
    rw [← hcl, List.take_length, List.drop_length, List.append_nil]
    exact h2
  · obtain ⟨g, rfl⟩ : ∃ g, A = some ⟨g, 0, none⟩ := by
      rcases ho.2 with ⟨_, e2⟩ | ⟨g, _, _, e1, _⟩
      · omega
      · injection e1 with e3
        exact ⟨g, e3⟩
    by_cases hr : n + 1 ≤ cap
    · refine (shift_calls base g n cap i vb cells va w ho h1 (by omega) hr hvb hvs h1v (fun e => hne (by rw [e]; rfl))).mono ?_
      rintro e w' ⟨rfl, h2, h3⟩
      exact ⟨_, _, rfl, h2, h3, fun q hq => (ho.lt q hq).1⟩
    · refine (grow_calls base g n cap i vb cells va w hbw ho h1 (by omega) (by omega) hbig hvb hvs h1v).mono ?_
      rintro e w' ⟨G, rfl, h2, h3⟩
      exact ⟨_, _, rfl, h2, h3, fun q hq => by cases hq⟩
end Go.Proofs.Ytdpoliolinghfaa.Ins
