/- Proved: slices.Delete over a slice of the call's own, whose elements are four cells each: what stood ahead, then what stood behind, in the same row. The conditions stand in the statement. -/
import Derived.Shelf.RegionOpenPlain
import Derived.WalkKit
import Derived.Deep.LoopGhost
import Derived.Deep.RegionLaw
import Derived.Lib.Walk
import Derived.Sort.WalkB12
import Derived.Lib.SliceRun
import Derived.OwnWalk
import Derived.Laws.OwnMore
import Derived.Lib.BufferWrite
import Derived.Maps.AppendAt
import Derived.Test.YtdpoliolinghfaaProg
namespace Go.Proofs.Ytdpoliolinghfaa.Del
open Go Go.Shelf Go.RowKit Go.Lib Go.Sort Go.Proofs
set_option linter.unusedVariables false
set_option linter.unusedSimpArgs false
theorem heap_setCell_row {w : World} {g o : Nat} {cur : Array Value} {e : TypeId} (v : Value) (h : w.heap[g]? = some (.cells cur e (0, 0))) : (w.setCell ⟨g, o, none⟩ v).heap[g]? = some (.cells (cur.setIfInBounds o v) e (0, 0)) := by
  obtain ⟨hlt, hk⟩ := Array.getElem?_eq_some_iff.1 h
  show (w.heap.modify g _)[g]? = _
  rw [Array.getElem?_eq_getElem (by rw [Array.size_modify]; exact hlt), Array.getElem_modify_self, hk]
  rfl
theorem heap_setCells_row {g : Nat} {e : TypeId} : ∀ (vs : List Value) (o : Nat) (w : World) (cur : Array Value), w.heap[g]? = some (.cells cur e (0, 0)) → o + vs.length ≤ cur.size →
    ∃ cur' : Array Value, (w.setCells g o vs).heap[g]? = some (.cells cur' e (0, 0)) ∧ cur'.size = cur.size ∧ cur'.toList = cur.toList.take o ++ vs ++ cur.toList.drop (o + vs.length)
  | [], o, w, cur, h, _ => ⟨cur, h, rfl, by simp⟩
  | v :: r, o, w, cur, h, hl => by
    have hl' : o + (r.length + 1) ≤ cur.size := hl
    obtain ⟨c', h1, h2, h3⟩ := heap_setCells_row r (o + 1) _ _ (heap_setCell_row (o := o) v h) (by rw [Array.size_setIfInBounds]; omega)
    refine ⟨c', h1, by rw [h2, Array.size_setIfInBounds], ?_⟩
    rw [h3, Array.toList_setIfInBounds]
    have ho : o < cur.toList.length := by rw [Array.length_toList]; omega
    rw [List.take_succ_eq_append_getElem (by rw [List.length_set]; exact ho), List.getElem_set_self, List.take_set_of_le (Nat.le_refl o), List.drop_set_of_lt (by omega), List.length_cons, show o + 1 + r.length = o + (r.length + 1) by omega]
    simp
theorem run_clear_cells {P : Program} (w : World) (t e ty : TypeId) (z : Value) (n : Nat) (zs : List Value) (ht : P.underlying t = some (.slice e)) (hv : ∀ w, (zeroValue e).run P w = .ok z w) (hz : (Builtin.zeroCells z.cells n).toList = zs) (h1 : ∀ v ∈ zs, v.oneCell' = true) (b o c : Nat) (hn : 0 < n)
    (hc : ∀ j, j < zs.length → (w.cell? ⟨b, o + j, none⟩).isSome = true) (hf : ∀ j, j < zs.length → w.frozen? ⟨b, o + j, none⟩ = false) :
    (Builtin.clear_ #[t] ty #[.slice (some ⟨b, o, none⟩) n c]).run P w = .ok (.tuple #[]) (w.setCells b o zs) := by
  have hst := run_storeCells_cells (P := P) b o zs 0 w (by simpa using hc) (by simpa using hf) h1
  simp only [Nat.add_zero] at hst
  obtain ⟨m, rfl⟩ : ∃ m, n = m + 1 := ⟨n - 1, by omega⟩
  simp [Builtin.clear_, run_underlying ht, hv, hz, hst]
theorem cell_of_cur {w : World} {g t : Nat} {cur : Array Value} {e : TypeId} (h : w.heap[g]? = some (.cells cur e (0, 0))) : w.cell? ⟨g, t, none⟩ = cur.toList[t]? := by
  simp [World.cell?, h]
theorem frozen_of_cur {w : World} {g t : Nat} {cur : Array Value} {e : TypeId} (h : w.heap[g]? = some (.cells cur e (0, 0))) : w.frozen? ⟨g, t, none⟩ = false := by
  simp [World.frozen?, h]
theorem grownBy_setCells (w : World) (g o : Nat) (vs : List Value) : w.grownBy (w.setCells g o vs) (some g) := by
  induction vs generalizing w o with
  | nil => exact ⟨rfl, rfl, rfl, Nat.le_refl _, fun _ _ _ => rfl⟩
  | cons v r ih =>
    have h1 : w.grownBy (w.setCell ⟨g, o, none⟩ v) (some g) := grownBy_setCell _ _ _ _
    have h2 := ih (w.setCell ⟨g, o, none⟩ v) (o + 1)
    exact h1.trans h2
set_option maxHeartbeats 4000000 in
set_option maxRecDepth 1000000 in
/-- slices.Delete. -/
theorem delete_calls (base g n cap i j : Nat) (cells : List Value) (w : World) (ho : w.ownsRow base 58 4 (.slice (some ⟨g, 0, none⟩) n cap) n cells) (h1 : ∀ u ∈ cells, u.oneCell' = true) (hij : i < j) (hj : j ≤ n) :
    Calls Try.prog 112 #[.slice (some ⟨g, 0, none⟩) n cap, .int .i64 i, .int .i64 j] w fun e w' => e = .returned (.slice (some ⟨g, 0, none⟩) (n - (j - i)) cap) ∧ w'.ownsRow base 58 4 (.slice (some ⟨g, 0, none⟩) (n - (j - i)) cap) (n - (j - i)) (cells.take (i * 4) ++ cells.drop (j * 4)) ∧ w.grownBy w' (some g) := by
  rcases ho.2 with ⟨h0, _⟩ | ⟨g', cap', cur, hv, hbase, hgb, r1, r2, r3, r4⟩
  · cases h0
  cases hv
  have hm : maxLen = 9223372036854775807 := rfl
  have hcl : cells.length = n * 4 := ho.1
  obtain ⟨i0, hi0, _, hz1, _⟩ := info_parts (show (Try.prog.info? 58).map (fun i => (i.zero, i.size, i.bytes)) = some (some (.agg #[(.int .i64 0), (.int .i64 0), (.int .i64 0), (.int .i64 0)]), 4, 32) by kernel_rfl)
  have mixed : Try.prog.follows .mixedOrders = true := by kernel_rfl
  have t64 := Try.underlying64
  have v58 := Try.zeroValue58
  obtain ⟨news, hnews⟩ : ∃ news, news = cells.drop (j * 4) := ⟨_, rfl⟩
  have hlen : news.length = (n - j) * 4 := by rw [hnews, List.length_drop, hcl]; omega
  have hget : ∀ t, news[t]? = cells[j * 4 + t]? := fun t => by rw [hnews, List.getElem?_drop]
  have hcur : ∀ t, t < n * 4 → cur.toList[t]? = cells[t]? := fun t ht => by rw [← r4, List.getElem?_take_of_lt ht]
  have hgd : w.drew.heap[g]? = some (.cells cur 58 (0, 0)) := hgb
  obtain ⟨A, hA, hsrc⟩ : ∃ A : Addr, (if cap = j then some (⟨g, 0, none⟩ : Addr) else some ⟨g, j * 4, none⟩) = some A ∧ Hid (∀ t u, news[t]? = some u → w.drew.cell? (A.add t) = some u) := by
    by_cases h : cap = j
    · refine ⟨⟨g, 0, none⟩, by simp [h], fun t u hu => ?_⟩
      have h0 : news.length = 0 := by rw [hlen]; omega
      rw [List.length_eq_zero_iff.1 h0] at hu
      simp at hu
    · refine ⟨⟨g, j * 4, none⟩, by simp [h], fun t u hu => ?_⟩
      have ht : t < (n - j) * 4 := by
        have := (List.getElem?_eq_some_iff.1 hu).1
        rwa [hlen] at this
      rw [hget t] at hu
      rw [Addr.add_lit, cell_of_cur hgd, hcur _ (by omega)]
      exact hu
  have s1 : Hid (news.length = (n - j) * 4) := hlen
  have s2 : Hid (∀ u ∈ news, u.oneCell' = true) := fun u hu => h1 u (by rw [hnews] at hu; exact List.mem_of_mem_drop hu)
  have s3 : Hid (∀ t, t < news.length → (w.drew.cell? ⟨g, 0 + i * 4 + t, none⟩).isSome = true ∧ w.drew.frozen? ⟨g, 0 + i * 4 + t, none⟩ = false) := by
    intro t ht
    rw [hlen] at ht
    refine ⟨?_, frozen_of_cur hgd⟩
    rw [cell_of_cur hgd, List.getElem?_eq_getElem (by rw [Array.length_toList]; omega)]
    rfl
  obtain ⟨W1, hW1⟩ : ∃ W1, W1 = w.drew.setCells g (0 + i * 4) news := ⟨_, rfl⟩
  obtain ⟨cur1, hc1, hs1, hl1⟩ := heap_setCells_row news (0 + i * 4) w.drew cur hgd (by omega)
  rw [← hW1] at hc1
  obtain ⟨zs, hzs⟩ : ∃ zs, (Builtin.zeroCells (Value.agg #[(.int .i64 0), (.int .i64 0), (.int .i64 0), (.int .i64 0)]).cells (j - i)).toList = zs := ⟨_, rfl⟩
  have hzl : zs.length = (j - i) * 4 := by rw [← hzs]; simp [Builtin.zeroCells, Value.cells]
  have hz1' : ∀ u ∈ zs, u.oneCell' = true := by
    intro u hu
    rw [← hzs] at hu
    simp only [Builtin.zeroCells, Value.cells, Array.toList_map, List.mem_map] at hu
    obtain ⟨q, _, rfl⟩ := hu
    have hq : q % 4 < 4 := Nat.mod_lt _ (by decide)
    show ((#[(.int .i64 0), (.int .i64 0), (.int .i64 0), (.int .i64 0)] : Array Value)[q % 4]!).oneCell' = true
    rcases (show q % 4 = 0 ∨ q % 4 = 1 ∨ q % 4 = 2 ∨ q % 4 = 3 by omega) with e | e | e | e <;> rw [e] <;> rfl
  have hoff : i + (n - j) + (j - i) = n := by omega
  have hclr : ∀ ty, (Builtin.clear_ #[64] ty #[.slice (some ⟨g, (i + (n - j)) * 4, none⟩) (n - (i + (n - j))) (cap - (i + (n - j)))]).run Try.prog W1 = .ok (.tuple #[]) (W1.setCells g ((i + (n - j)) * 4) zs) :=
    fun ty => run_clear_cells W1 _ _ ty _ (n - (i + (n - j))) zs t64 v58 (by rw [show n - (i + (n - j)) = j - i by omega]; exact hzs) hz1' g _ _ (by omega) (fun t ht => by rw [cell_of_cur hc1, List.getElem?_eq_getElem (by rw [Array.length_toList]; omega)]; rfl) (fun t ht => frozen_of_cur hc1)
  have hW : Hid (W1 = w.drew.setCells g (0 + i * 4) news) := hW1
  have hic : i ≤ cap := by omega
  have hjc : j ≤ cap := by omega
  have hnc : n ≤ cap := r1
  obtain ⟨cur2, hc2, hs2, hl2⟩ := heap_setCells_row zs ((i + (n - j)) * 4) W1 cur1 hc1 (by omega)
  have fin : (W1.setCells g ((i + (n - j)) * 4) zs).ownsRow base 58 4 (.slice (some ⟨g, 0, none⟩) (n - (j - i)) cap) (n - (j - i)) (cells.take (i * 4) ++ cells.drop (j * 4)) ∧ w.grownBy (W1.setCells g ((i + (n - j)) * 4) zs) (some g) := by
    refine ⟨⟨?_, .inr ⟨g, cap, cur2, rfl, hbase, hc2, by omega, r2, by rw [hs2, hs1, r3], ?_⟩⟩, ?_⟩
    · rw [List.length_append, List.length_take, List.length_drop, hcl]; omega
    · rw [hl2, hl1, ← hnews, Nat.zero_add]
      have ea : (cur.toList.take (i * 4)) = cells.take (i * 4) := by rw [← r4, List.take_take, Nat.min_eq_left (by omega)]
      have el : (cells.take (i * 4) ++ news).length = (n - (j - i)) * 4 := by rw [List.length_append, List.length_take, hcl, hlen]; omega
      rw [ea, show (i + (n - j)) * 4 = (n - (j - i)) * 4 by omega, List.take_left' el, List.append_assoc (List.take (i * 4) cells ++ news), List.take_left' el]
    · rw [hW1]
      exact ((⟨rfl, rfl, rfl, Nat.le_refl _, fun _ _ _ => rfl⟩ : w.grownBy w.drew (some g)).trans (grownBy_setCells w.drew g (0 + i * 4) news)).trans (grownBy_setCells _ g _ _)
  have FIN : Hid _ := fin
  clear hW1 hc1 hs1 hl1 hc2 hs2 hl2 fin hgb hgd hget hnews hlen hcur ho h1 r1 r2 r3 r4 hzs hzl hz1' hcl hbase
  go_enter Try.func112, Try.ntmps112
  go_wp2_with fail
  go_region_law_o (refine step_append_room rfl (.tmp 22) (.tmp 25) 64 rfl 58 i0 4 t64 hi0 hz1 g 0 i cap (by simp [Act.eval, Act.put]) A (n - j) (cap - j) news (by simp [Act.eval, Act.put]) s1.out hsrc.out s2.out (by omega) s3.out ?_; rw [← hW.out])
  go_wp2
  go_ret
  refine ⟨by rw [show n - (j - i) = i + (n - j) by omega]; rfl, ?_⟩
  exact FIN
end Go.Proofs.Ytdpoliolinghfaa.Del
