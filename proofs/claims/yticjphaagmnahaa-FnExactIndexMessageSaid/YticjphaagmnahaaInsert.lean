/- A number is put into a row of a call's own at a place. -/
import Derived.Test.YticjphaagmnahaaDelete
import Derived.Shelf.Spec.SlicesInsertGrow
namespace Go.Proofs.Yticjphaagmnahaa
open Go Go.RowKit Go.BigFrame Go.Lib
set_option linter.unusedVariables false
set_option linter.unusedSimpArgs false

def insN (l : List Int) (k : Nat) (x : Int) : List Int := l.take k ++ x :: l.drop k
theorem insN_len {l : List Int} {k : Nat} (x : Int) (hk : k ≤ l.length) : (insN l k x).length = l.length + 1 := by simp [insN]; omega
theorem insN_get {l : List Int} {k : Nat} (x : Int) (hk : k ≤ l.length) (i : Nat) : (insN l k x)[i]? = if i < k then l[i]? else if i = k then some x else l[i - 1]? := by
  unfold insN
  have hl : (l.take k).length = k := by simp; omega
  by_cases h1 : i < k
  · rw [List.getElem?_append_left (by omega), if_pos h1, List.getElem?_take_of_lt h1]
  · rw [if_neg h1, List.getElem?_append_right (by omega), hl]
    by_cases h2 : i = k
    · subst h2; simp
    · rw [if_neg h2, show i - k = (i - k - 1) + 1 by omega, List.getElem?_cons_succ, List.getElem?_drop]
      congr 1; omega
/-- Cells that a row with one more number lies in. -/
theorem insN_row {l : List Int} {k : Nat} {x : Int} (hk : k ≤ l.length) {L : List Value} (h : ∀ i, i < l.length + 1 → L[i]? = ((insN l k x)[i]?).map (Value.int .i64)) : L.take (insN l k x).length = (insN l k x).map (Value.int .i64) := by
  apply List.ext_getElem?
  intro i
  rw [List.getElem?_map, List.getElem?_take, insN_len x hk]
  split
  · exact h i ‹_›
  · rw [List.getElem?_eq_none (by rw [insN_len x hk]; omega)]; rfl
theorem segs_down {l : List Int} {k : Nat} {x : Int} {L : List Value} (hk : k ≤ l.length) (hn : l.length < L.length) (ht : L.take l.length = l.map (Value.int .i64)) :
    (segSet (segSet L (k + 1) ((l.drop k).map (Value.int .i64))) k [.int .i64 x]).take (insN l k x).length = (insN l k x).map (Value.int .i64) := by
  refine insN_row hk fun i hi => ?_
  have hg : ∀ j, j < l.length → L[j]? = (l[j]?).map (Value.int .i64) := fun j hj => by
    have := congrArg (fun X : List Value => X[j]?) ht
    simp only [List.getElem?_take, List.getElem?_map] at this
    rwa [if_pos hj] at this
  rw [segSet_get _ _ _ _ (by rw [segSet_len]; simp; omega), segSet_get _ _ _ _ (by simp; omega), insN_get x hk]
  simp only [List.length_cons, List.length_nil, List.length_map, List.length_drop]
  by_cases h1 : i < k
  · rw [if_neg (by omega), if_neg (by omega), if_pos h1, hg i (by omega)]
  · by_cases h2 : i = k
    · subst h2; rw [if_pos (by omega), if_neg h1, if_pos rfl]; simp
    · rw [if_neg (by omega), if_pos (by omega), if_neg h1, if_neg h2, List.getElem?_map, List.getElem?_drop]
      congr 2; omega
theorem segs_up {l : List Int} {k : Nat} {x : Int} {L : List Value} (hk : k ≤ l.length) (hn : l.length < L.length) (ht : ∀ j, j < k → L[j]? = (l[j]?).map (Value.int .i64)) :
    (segSet (segSet L k [.int .i64 x]) (k + 1) ((l.drop k).map (Value.int .i64))).take (insN l k x).length = (insN l k x).map (Value.int .i64) := by
  refine insN_row hk fun i hi => ?_
  rw [segSet_get _ _ _ _ (by rw [segSet_len]; simp; omega), segSet_get _ _ _ _ (by simp; omega), insN_get x hk]
  simp only [List.length_cons, List.length_nil, List.length_map, List.length_drop]
  by_cases h1 : i < k
  · rw [if_neg (by omega), if_neg (by omega), if_pos h1, ht i h1]
  · by_cases h2 : i = k
    · subst h2; rw [if_neg (by omega), if_pos (by omega), if_neg h1, if_pos rfl]; simp
    · rw [if_pos (by omega), if_neg h1, if_neg h2, List.getElem?_map, List.getElem?_drop]
      congr 2; omega

theorem some_put {w : World} {B : Nat} {cur : Array Value} {e : TypeId} (h : w.heap[B]? = some (.cells cur e (0, 0))) (j : Nat) (hj : j < cur.size) : (w.cell? ⟨B, j, none⟩).isSome = true := by
  rw [cell_block h, Array.getElem?_eq_getElem hj]; rfl
theorem oneInts (l : List Int) : ∀ v ∈ l.map (Value.int .i64), v.oneCell' = true := fun v hv => by obtain ⟨x, _, rfl⟩ := List.mem_map.1 hv; rfl
set_option maxHeartbeats 4000000 in
set_option maxRecDepth 100000 in
theorem insertShift_c (B cap : Nat) (cur : Array Value) (l : List Int) (k q : Nat) (x : Int) (w : World) (hk : k < l.length) (hc : l.length + 1 ≤ cap) (hm : cap ≤ 9223372036854775807)
    (hB : w.heap[B]? = some (.cells cur 2 (0, 0))) (hsz : cur.size = cap) (ht : cur.toList.take l.length = l.map (Value.int .i64)) (hq : w.heap[q]? = some (.cells #[.int .i64 x] 2 (0, 0))) (hqB : q ≠ B) :
    Calls Try.prog 140 #[.slice (some ⟨B, 0, none⟩) l.length cap, .int .i64 k, .slice (some ⟨q, 0, none⟩) 1 1] w fun e w' =>
      e = .returned (.slice (some ⟨B, 0, none⟩) (l.length + 1) cap) ∧ w' = putCells (putCells w.drew B (k + 1) ((l.drop k).map (Value.int .i64))) B k [.int .i64 x] := by
  have hcl : l.length ≤ cur.toList.length := by have : cur.toList.length = cur.size := Array.length_toList; omega
  have hcs : ∀ j v, (l.map (Value.int .i64))[j]? = some v → w.cell? ⟨B, j, none⟩ = some v := fun j v hj => by
    rw [cell_block hB, ← Array.getElem?_toList]
    rw [← ht, List.getElem?_take] at hj
    split at hj
    · exact hj
    · cases hj
  have hov : ∀ lb cb, (callFunc 172 #[.slice (some ⟨q, 0, none⟩) 1 1, .slice (some ⟨B, k + 1, none⟩) lb cb]).run Try.prog w = .ok (.value (.bool false)) w := fun lb cb => by
    rw [run_callFunc_extern (Try.func172) (by kernel_rfl) (by kernel_rfl) (by kernel_rfl) (e := Extern.SlicesOverlaps.overlaps #[28, 28] #[4]) (by kernel_rfl),
      Lib.run_overlaps_apart w 28 4 2 Try.underlying28 1 Try.sizeOf2 ⟨q, 0, none⟩ ⟨B, k + 1, none⟩ 1 1 lb cb hqB 2 2 1 cur.size (by simp [World.shape?, hq]) (by simp [World.shape?, hB]) (by omega) (frozen_block hq) (frozen_block hq)]
    rfl
  have hsz1 : (Try.prog.info? 2).map (·.size) = some 1 := by
    obtain ⟨i0, hi0, h0, h1, h2⟩ := info_parts infoInt
    rw [hi0]; simp [h1]
  have hdl : ((l.drop k).map (Value.int .i64)).length = l.length - k := by simp
  have hB1 : w.drew.heap[B]? = some (.cells cur 2 (0, 0)) := hB
  have hcp1 : ∀ ty dc sc, (Builtin.copy_ #[28, 28] ty #[.slice (some ⟨B, k + 1, none⟩) (l.length - k) dc, .slice (some ⟨B, k, none⟩) (l.length + 1 - k) sc]).run Try.prog w.drew = .ok (goInt ((l.drop k).map (Value.int .i64)).length) (putCells w.drew B (k + 1) ((l.drop k).map (Value.int .i64))) := fun ty dc sc => by
    rw [← setCells_put]
    exact run_copy_cells w.drew _ _ ty 2 B (k + 1) (l.length - k) dc ⟨B, k, none⟩ (l.length + 1 - k) sc ((l.drop k).map (Value.int .i64)) Try.underlying28 hsz1 (by rw [hdl]; simp only [Nat.min_def]; split <;> omega)
      (fun j v hj => by rw [Addr.add_lit]; exact hcs (k + j) v (by rw [List.map_drop, List.getElem?_drop] at hj; exact hj))
      (fun j hj => some_put hB1 _ (by omega)) (fun j hj => frozen_block hB1) (oneInts _)
  obtain ⟨W1, hW1⟩ : ∃ W1, W1 = putCells w.drew B (k + 1) ((l.drop k).map (Value.int .i64)) := ⟨_, rfl⟩
  rw [← hW1] at hcp1
  obtain ⟨cur1, hb1, hs1⟩ := putCells_block ((l.drop k).map (Value.int .i64)) w.drew B (k + 1) hB1
  rw [← hW1] at hb1
  have hz1 : cur1.size = cap := by
    have := congrArg List.length hs1
    rw [segSet_len] at this
    simp at this; omega
  have hq1 : W1.heap[q]? = some (.cells #[.int .i64 x] 2 (0, 0)) := by rw [hW1, putCells_other _ _ _ _ hqB]; exact hq
  have hcp2 : ∀ (W : World), W.heap = W1.heap → ∀ ty dc, (Builtin.copy_ #[28, 28] ty #[.slice (some ⟨B, k, none⟩) (l.length + 1 - k) dc, .slice (some ⟨q, 0, none⟩) 1 1]).run Try.prog W = .ok (goInt 1) (putCells W B k [.int .i64 x]) := fun W hWh ty dc => by
    rw [← setCells_put]
    exact run_copy_cells W _ _ ty 2 B k (l.length + 1 - k) dc ⟨q, 0, none⟩ 1 1 [.int .i64 x] Try.underlying28 hsz1 (by simp only [List.length_singleton, Nat.min_def]; split <;> omega)
      (fun j v hj => by
        cases j with
        | zero => simp at hj; subst hj; exact (cell_block (by rw [hWh]; exact hq1)).trans rfl
        | succ j => simp at hj)
      (fun j hj => some_put (by rw [hWh]; exact hb1) _ (by simp at hj; omega)) (fun j hj => frozen_block (by rw [hWh]; exact hb1)) (fun v hv => by simp at hv; subst hv; rfl)
  have mixed : Try.prog.follows .mixedOrders = true := by kernel_rfl
  have hz2 : ¬ ((k : Int) = (l.length : Int)) := by omega
  have hw1 : IntKind.i64.wrap ((k : Int) + 1) = (k : Int) + 1 := IntWalk.i64_in _ (by omega)
  have hin : k ≤ l.length := by omega
  have htn : ((k : Int) + 1).toNat = k + 1 := by omega
  have hb2 : ¬ (cap = k + 1) := by omega
  have hb3 : (k : Int) ≤ (l.length : Int) + 1 := by omega
  have hb4 : ¬ (cap = k) := by omega
  have hb5 : (0 : Int) ≤ (k : Int) + 1 := by omega
  clear hcs hB hq hB1 hb1 hq1 hs1 ht hdl hcl
  go_enter Try.func140, Try.ntmps140
  go_wp2_with (simp only [hov])
  go_region_law_o (refine step_copy_runI rfl _ _ 28 28 rfl _ _ (by simp [Act.eval, Act.put]) (by simp [Act.eval, Act.put]) (hcp1 _ _ _) ?_)
  go_wp2_with (at_builtin; refine wpList_copy_runI _ rfl _ _ 28 28 rfl _ _ rfl rfl (hcp2 _ rfl _ _) ?_)
  go_ret
  exact ⟨rfl, by rw [List.map_drop]⟩
set_option maxHeartbeats 4000000 in
set_option maxRecDepth 100000 in
theorem insertGrow_c (B cap : Nat) (cur : Array Value) (l : List Int) (k q : Nat) (x : Int) (w : World) (hk : k < l.length) (hcl : l.length ≤ cap) (hc : cap < l.length + 1) (hlen : l.length < 1048576)
    (hB : w.heap[B]? = some (.cells cur 2 (0, 0))) (hsz : cur.size = cap) (ht : cur.toList.take l.length = l.map (Value.int .i64)) (hq : w.heap[q]? = some (.cells #[.int .i64 x] 2 (0, 0))) :
    Calls Try.prog 140 #[.slice (some ⟨B, 0, none⟩) l.length cap, .int .i64 k, .slice (some ⟨q, 0, none⟩) 1 1] w fun e w' => ∃ (G : Nat) (ROW : Array Value) (V : World),
      e = .returned (.slice (some ⟨w.heap.size, 0, none⟩) (l.length + 1) G) ∧ l.length + 1 ≤ G ∧ G ≤ 9223372036854775807 ∧ ROW.size = G ∧ (∀ j, j < k → ROW.toList[j]? = (l[j]?).map (Value.int .i64)) ∧
      V.heap = (w.alloc (.cells ROW 2)).heap ∧ Below w.heap.size w V ∧ w' = putCells ((putCells V w.heap.size k [.int .i64 x]).drew) w.heap.size (k + 1) ((l.drop k).map (Value.int .i64)) := by
  have hcll : l.length ≤ cur.toList.length := by have : cur.toList.length = cur.size := Array.length_toList; omega
  have hcs : ∀ j v, (l.map (Value.int .i64))[j]? = some v → w.cell? ⟨B, j, none⟩ = some v := fun j v hj => by
    rw [cell_block hB, ← Array.getElem?_toList]
    rw [← ht, List.getElem?_take] at hj
    split at hj
    · exact hj
    · cases hj
  have hsz1 : (Try.prog.info? 2).map (·.size) = some 1 := by
    obtain ⟨i0, hi0, h0, h1, h2⟩ := info_parts infoInt
    rw [hi0]; simp [h1]
  obtain ⟨i0, hi0, hz0, hzs, hzb⟩ := info_parts infoInt
  have hBw := block_lt hB
  have hqw := block_lt hq
  have hkk : (l.length : Int) + 1 - (k : Int) = ((l.length + 1 - k : Nat) : Int) := by omega
  have hik : k + (l.length + 1 - k) = l.length + 1 := by omega
  have hold : (Builtin.firstCells i0.size k (.slice (some ⟨B, 0, none⟩) k cap)).run Try.prog w.drew = .ok ((l.take k).map (Value.int .i64)).toArray w.drew := by
    rw [hzs]
    exact run_firstCells_some w.drew 1 k ⟨B, 0, none⟩ k cap ((l.take k).map (Value.int .i64)) (by simp; omega) (fun j v hj => by
      rw [Addr.add_lit, Nat.zero_add]
      rw [List.map_take, List.getElem?_take] at hj
      split at hj
      · exact hcs j v hj
      · cases hj)
  obtain ⟨G, hG⟩ : ∃ G, G = grownCap w (l.length + 1) cap 2 := ⟨_, rfl⟩
  obtain ⟨ROW, hROW⟩ : ∃ ROW : Array Value, ROW = ((l.take k).map (Value.int .i64)).toArray ++ Builtin.zeroCells (Value.int .i64 0).cells (l.length + 1 - k) ++ Builtin.zeroCells (Value.int .i64 0).cells (G - (l.length + 1)) := ⟨_, rfl⟩
  have hrz : ∀ ty, (Builtin.append_ #[28, 3] ty #[.slice (some ⟨B, 0, none⟩) k cap, .int .i64 ((l.length : Int) + 1 - (k : Int))]).run Try.prog w =
      .ok (.slice (some ⟨w.heap.size, 0, none⟩) (l.length + 1) G) (w.drew.alloc (.cells ROW 2)) := fun ty => by
    have h := Lib.run_append_grow_zeros w 28 3 ty 2 i0 _ .i64 .i64 Try.underlying28 Try.underlying3 hi0 hz0 (some ⟨B, 0, none⟩) k cap ((l.take k).map (Value.int .i64)) hold (l.length + 1 - k) (by omega) (by omega) (by omega) (by omega) (by rw [hzb]; omega) (by rw [hzb, hik]; exact growslice_fits hc (by omega))
    rw [hik, ← hG, ← hROW] at h
    rw [hkk]
    exact h
  have hGn : l.length + 1 ≤ G := by rw [hG]; exact grownCap_ge w _ _ _
  have hG63 : G ≤ 9223372036854775807 := by
    have := grownCap_le_maxLen w (l.length + 1) cap 2 (by unfold maxLen; omega)
    rw [← hG] at this
    unfold maxLen at this
    omega
  have hRl : ROW.size = G := by
    rw [hROW]
    simp [Builtin.zeroCells, Value.cells]
    omega
  have hRt : ∀ j, j < k → ROW.toList[j]? = (l[j]?).map (Value.int .i64) := fun j hj => by
    rw [hROW]
    simp only [Array.toList_append, List.append_assoc]
    rw [List.getElem?_append_left (by simp; omega), List.getElem?_map, List.getElem?_take_of_lt hj]
  obtain ⟨W1, hW1⟩ : ∃ W1, W1 = w.drew.alloc (.cells ROW 2) := ⟨_, rfl⟩
  rw [← hW1] at hrz
  have hnew : W1.heap[w.heap.size]? = some (.cells ROW 2 (0, 0)) := by rw [hW1]; exact alloc_new w.drew _
  have hBn : W1.heap[B]? = some (.cells cur 2 (0, 0)) := by rw [hW1]; exact (alloc_old w.drew _ hBw).trans hB
  have hqn : W1.heap[q]? = some (.cells #[.int .i64 x] 2 (0, 0)) := by rw [hW1]; exact (alloc_old w.drew _ hqw).trans hq
  have hbl : Below w.heap.size w W1 := by rw [hW1]; exact (Below.refl w.heap.size w).drew.alloc (Nat.le_refl _) _
  have hcpA : ∀ (W : World), W.heap = W1.heap → ∀ ty dc, (Builtin.copy_ #[28, 28] ty #[.slice (some ⟨w.heap.size, k, none⟩) (l.length + 1 - k) dc, .slice (some ⟨q, 0, none⟩) 1 1]).run Try.prog W = .ok (goInt 1) (putCells W w.heap.size k [.int .i64 x]) := fun W hWh ty dc => by
    rw [← setCells_put]
    exact run_copy_cells W _ _ ty 2 w.heap.size k (l.length + 1 - k) dc ⟨q, 0, none⟩ 1 1 [.int .i64 x] Try.underlying28 hsz1 (by simp only [List.length_singleton, Nat.min_def]; split <;> omega)
      (fun j v hj => by
        cases j with
        | zero => simp at hj; subst hj; exact (cell_block (by rw [hWh]; exact hqn)).trans rfl
        | succ j => simp at hj)
      (fun j hj => some_put (by rw [hWh]; exact hnew) _ (by simp at hj; omega)) (fun j hj => frozen_block (by rw [hWh]; exact hnew)) (fun v hv => by simp at hv; subst hv; rfl)
  have hcpB : ∀ (W : World) (cur2 : Array Value), W.heap[B]? = some (.cells cur 2 (0, 0)) → W.heap[w.heap.size]? = some (.cells cur2 2 (0, 0)) → cur2.size = G → ∀ ty dc sc, (Builtin.copy_ #[28, 28] ty #[.slice (some ⟨w.heap.size, k + 1, none⟩) (l.length - k) dc, .slice (some ⟨B, k, none⟩) (l.length - k) sc]).run Try.prog W = .ok (goInt ((l.drop k).map (Value.int .i64)).length) (putCells W w.heap.size (k + 1) ((l.drop k).map (Value.int .i64))) := fun W cur2 hWB hWn hz2 ty dc sc => by
    rw [← setCells_put]
    exact run_copy_cells W _ _ ty 2 w.heap.size (k + 1) (l.length - k) dc ⟨B, k, none⟩ (l.length - k) sc ((l.drop k).map (Value.int .i64)) Try.underlying28 hsz1 (by simp)
      (fun j v hj => by
        rw [Addr.add_lit]
        have h := hcs (k + j) v (by rw [List.map_drop, List.getElem?_drop] at hj; exact hj)
        rw [cell_block hB] at h; rw [cell_block hWB]; exact h)
      (fun j hj => some_put hWn _ (by simp at hj; omega)) (fun j hj => frozen_block hWn) (oneInts _)
  obtain ⟨cur2, hb2, hs2⟩ := putCells_block [.int .i64 x] W1 w.heap.size k hnew
  have hz2 : cur2.size = G := by
    have := congrArg List.length hs2
    rw [segSet_len] at this
    simp at this; omega
  have hBn2 : (putCells W1 w.heap.size k [.int .i64 x]).heap[B]? = some (.cells cur 2 (0, 0)) := by rw [putCells_other _ _ _ _ (by omega)]; exact hBn
  have hcpC : ∀ (W : World), W.heap = (putCells W1 w.heap.size k [.int .i64 x]).heap → _ := fun W hWh => hcpB W cur2 (by rw [hWh]; exact hBn2) (by rw [hWh]; exact hb2) hz2
  have mixed : Try.prog.follows .mixedOrders = true := by kernel_rfl
  have hz3 : ¬ ((k : Int) = (l.length : Int)) := by omega
  have hz4 : (cap : Int) < (l.length : Int) + 1 := by omega
  have hGi : ¬ (G = k) := by omega
  have hGim : ¬ (G = k + 1) := by omega
  have hci : ¬ (cap = k) := by omega
  have hw1 : IntKind.i64.wrap ((k : Int) + 1) = (k : Int) + 1 := IntWalk.i64_in _ (by omega)
  have hb1 : (0 : Int) ≤ (k : Int) + 1 := by omega
  have hin : k ≤ l.length := by omega
  have htn : ((k : Int) + 1).toNat = k + 1 := by omega
  have hb3 : (k : Int) ≤ (l.length : Int) := by omega
  clear hkk hik hold hROW hG hcs hB hq hBn hqn hb2 hs2 hBn2 hnew ht hcll hcpB
  go_enter Try.func140, Try.ntmps140
  go_wp2_with (first
    | (at_builtin; refine Lib.wpList_append_run _ rfl _ _ _ _ rfl _ _ rfl rfl _ _ (hrz _) ?_)
    | (at_builtin; refine wpList_copy_runI _ rfl _ _ 28 28 rfl _ _ rfl rfl (hcpA _ (by rw [hW1]; rfl) _ _) ?_))
  go_region_law_o (refine step_copy_runI rfl _ _ 28 28 rfl (.slice (some ⟨w.heap.size, k + 1, none⟩) (l.length - k) (G - (k + 1))) (.slice (some ⟨B, k, none⟩) (l.length - k) (cap - k)) (by simp [Act.eval, Act.put]) (by simp [Act.eval, Act.put]) (hcpC _ (by rw [hW1]; rfl) 3 (G - (k + 1)) (cap - k)) ?_)
  go_wp2_with fail
  go_ret
  rw [← List.map_drop]
  exact ⟨G, ROW, (w.alloc (.cells ROW 2)).drew, rfl, hGn, hG63, hRl, hRt, rfl, ((Below.refl w.heap.size w).alloc (Nat.le_refl _) _).drew, rfl⟩
set_option maxHeartbeats 4000000 in
set_option maxRecDepth 100000 in
theorem insertEnd_c (v : Value) (l : List Int) (F : List Nat) (q : Nat) (x : Int) (w : World) (hM : SliceM intD 2 w v l F) (hF : F.Nodup) (hlen : l.length < 1048576) (hq : w.heap[q]? = some (.cells #[.int .i64 x] 2 (0, 0))) :
    Calls Try.prog 140 #[v, .int .i64 l.length, .slice (some ⟨q, 0, none⟩) 1 1] w fun e w' => ∃ v' F', e = .returned v' ∧ SliceM intD 2 w' v' (l ++ [x]) F' ∧ F'.Nodup ∧ (∀ y ∈ F', y ∈ F ∨ w.heap.size ≤ y) ∧ Chg F w w' := by
  obtain ⟨A, c, rfl⟩ := hM.toK.shape
  have hqc : w.cell? ⟨q, 0, none⟩ = some (.int .i64 x) := by rw [cell_block hq]; rfl
  have HM := hide hM
  obtain ⟨A', c', hv, hl, hm, hra⟩ := hM.toK
  simp only [Value.slice.injEq, true_and] at hv
  obtain ⟨rfl, rfl⟩ := hv
  clear hM hq hra
  go_enter Try.func140, Try.ntmps140
  go_wp2_with (
    at_builtin
    refine wpList_app_int _ rfl _ _ _ rfl Try.underlying28 infoInt _ _ F rfl HM.out hF _ _ x rfl hqc hlen ?_
    intro g2 cap2 w3 F3 hap
    have HAP := hide hap
    clear hap)
  all_goals
    go_ret
    obtain ⟨hm3, hn3, hf3, hc3⟩ := HAP.out
    refine ⟨_, rfl, F3, by simpa using hm3, hn3, fun y hy => ?_, hc3⟩
    rcases hf3 y hy with h | h | h
    · exact .inl h
    · simp at h
    · exact .inr (by omega)
theorem insert_c (v : Value) (l : List Int) (F : List Nat) (k q : Nat) (x : Int) (w : World) (hM : SliceM intD 2 w v l F) (hF : F.Nodup) (hk : k ≤ l.length) (hlen : l.length < 1048576) (hq : w.heap[q]? = some (.cells #[.int .i64 x] 2 (0, 0))) (hqF : q ∉ F) :
    Calls Try.prog 140 #[v, .int .i64 k, .slice (some ⟨q, 0, none⟩) 1 1] w fun e w' => ∃ v' F', e = .returned v' ∧ SliceM intD 2 w' v' (insN l k x) F' ∧ F'.Nodup ∧ (∀ y ∈ F', y ∈ F ∨ w.heap.size ≤ y) ∧ Chg F w w' := by
  by_cases hkn : k = l.length
  · subst hkn
    refine (insertEnd_c v l F q x w hM hF hlen hq).mono fun e w' h => ?_
    rwa [show l ++ [x] = insN l l.length x by simp [insN]] at h
  · have hlt : k < l.length := by omega
    rcases int_M hM with ⟨rfl, rfl, rfl⟩ | ⟨B, cap, cur, rfl, hl, hm, hcur, hsz, htk, rfl⟩
    · simp at hlt
    have hil := insN_len x hk
    have hcl : cur.toList.length = cur.size := Array.length_toList
    by_cases hroom : l.length + 1 ≤ cap
    · refine (insertShift_c B cap cur l k q x w hlt hroom hm hcur hsz htk hq (fun h => hqF (by simp [h]))).mono ?_
      rintro e w' ⟨rfl, rfl⟩
      obtain ⟨cur1, hb1, hs1⟩ := putCells_block ((l.drop k).map (Value.int .i64)) w.drew B (k + 1) (cur := cur) hcur
      obtain ⟨cur2, hb2, hs2⟩ := putCells_block [.int .i64 x] (putCells w.drew B (k + 1) ((l.drop k).map (Value.int .i64))) B k hb1
      have hz2 : cur2.size = cap := by
        have := congrArg List.length hs2
        rw [segSet_len, hs1, segSet_len] at this
        simp at this; omega
      refine ⟨_, [B], rfl, ?_, by simp, fun y hy => .inl hy, putCells_chg _ _ _ (putCells_chg _ _ _ (Chg.refl _ _).drew (.inl (by simp))) (.inl (by simp))⟩
      rw [← hil]
      exact int_M_mk (by omega) hm hb2 hz2 (by rw [hs2, hs1]; exact segs_down hk (by omega) htk)
    · refine (insertGrow_c B cap cur l k q x w hlt hl (by omega) hlen hcur hsz htk hq).mono ?_
      rintro e w' ⟨G, ROW, V, rfl, hG, hG63, hR, hRt, hVh, hVb, rfl⟩
      have hVn : V.heap[w.heap.size]? = some (.cells ROW 2 (0, 0)) := by rw [hVh]; exact alloc_new w _
      obtain ⟨cur1, hb1, hs1⟩ := putCells_block [.int .i64 x] V w.heap.size k hVn
      obtain ⟨cur2, hb2, hs2⟩ := putCells_block ((l.drop k).map (Value.int .i64)) (putCells V w.heap.size k [.int .i64 x]).drew w.heap.size (k + 1) (cur := cur1) hb1
      have hRl : ROW.toList.length = ROW.size := Array.length_toList
      have hz2 : cur2.size = G := by
        have := congrArg List.length hs2
        rw [segSet_len, hs1, segSet_len] at this
        simp at this; omega
      refine ⟨_, [w.heap.size], rfl, ?_, by simp, fun y hy => .inr (by simp at hy; omega), putCells_chg _ _ _ (putCells_chg _ _ _ (Chg.of_below hVb _) (.inr (Nat.le_refl _))).drew (.inr (Nat.le_refl _))⟩
      rw [← hil]
      exact int_M_mk (by omega) hG63 hb2 hz2 (by rw [hs2, hs1]; exact segs_up hk (by omega) hRt)
end Go.Proofs.Yticjphaagmnahaa
