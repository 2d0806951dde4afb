/- slices.Insert of one value at rows of flat values. -/
import Derived.Test.YticjphaagmnahaaStFit
import Derived.Test.YticjphaagmnahaaRGround
import Derived.Test.YticjphaagmnahaaHeldCut
import Derived.Test.YticjphaagmnahaaIxHeld
import Derived.Test.YticjphaagmnahaaInsert
import Derived.Laws.Externs
import Derived.Shelf.Spec.SlicesInsertGrow
import Derived.Deep.RegionLaw
import Derived.Deep.DrawnRows
namespace Go.Proofs.Yticjphaagmnahaa
open Go Go.RowKit Go.BigFrame Go.Lib
set_option linter.unusedVariables false
set_option linter.unusedSimpArgs false
theorem run_copy_flat {P : Program} (w : World) (dT sT ty elem : TypeId) (n b o dLen dCap : Nat) (a : Addr) (sLen sCap m : Nat) (cs : List Value)
    (hu : P.underlying dT = some (.slice elem)) (hs : (P.info? elem).map (·.size) = some n) (hm : Nat.min sLen dLen = m) (hn : cs.length = m * n)
    (hsrc : ∀ j v, cs[j]? = some v → w.cell? (a.add j) = some v) (hc : ∀ j, j < cs.length → (w.cell? ⟨b, o + j, none⟩).isSome = true) (hf : ∀ j, j < cs.length → w.frozen? ⟨b, o + j, none⟩ = false) (h1 : ∀ v ∈ cs, v.oneCell' = true) :
    (Builtin.copy_ #[dT, sT] ty #[.slice (some ⟨b, o, none⟩) dLen dCap, .slice (some a) sLen sCap]).run P w = .ok (goInt m) (putCells w b o cs) := by
  rw [← setCells_put]
  have hl := run_loadCells_list (P := P) w a cs hsrc
  have hst := run_storeCells_cells (P := P) b o cs 0 w (by simpa using hc) (by simpa using hf) h1
  cases hq : P.info? elem with
  | none => simp [hq] at hs
  | some i =>
    have hi : i.size = n := by simpa [hq] using hs
    simp [Builtin.copy_, run_underlying hu, Builtin.lenOf, Builtin.firstCells, sizeOf, typeInfo, hq, hi, hm, ← hn, hl, hst]
/-- Cells of a row with one more in it: written from behind, written from before. -/
theorem seg_down {L A X E : List Value} {a n e : Nat} (hA : L.take a = A) (hX : X.length = n) (hE : E.length = e) (hfit : a + n + e ≤ L.length) : (segSet (segSet L (a + n) E) a X).take (a + n + e) = A ++ (X ++ E) := by
  subst hA
  have ha : (L.take a).length = a := by rw [List.length_take]; omega
  apply List.ext_getElem?
  intro i
  rw [List.getElem?_take]
  by_cases h : i < a + n + e
  · rw [if_pos h, segSet_get _ _ _ _ (by rw [segSet_len]; omega), segSet_get _ _ _ _ (by omega)]
    by_cases h1 : i < a
    · rw [if_neg (by omega), if_neg (by omega), List.getElem?_append_left (by omega), List.getElem?_take, if_pos h1]
    · rw [List.getElem?_append_right (by omega), ha]
      by_cases h2 : i < a + n
      · rw [if_pos (by omega), List.getElem?_append_left (by omega)]
      · rw [if_neg (by omega), if_pos (by omega), List.getElem?_append_right (by omega)]
        congr 1; omega
  · rw [if_neg h, List.getElem?_eq_none (by simp only [List.length_append, ha]; omega)]
theorem seg_up {L A X E : List Value} {a n e : Nat} (hA : L.take a = A) (hX : X.length = n) (hE : E.length = e) (hfit : a + n + e ≤ L.length) : (segSet (segSet L a X) (a + n) E).take (a + n + e) = A ++ (X ++ E) := by
  subst hA
  have ha : (L.take a).length = a := by rw [List.length_take]; omega
  apply List.ext_getElem?
  intro i
  rw [List.getElem?_take]
  by_cases h : i < a + n + e
  · rw [if_pos h, segSet_get _ _ _ _ (by rw [segSet_len]; omega), segSet_get _ _ _ _ (by omega)]
    by_cases h1 : i < a
    · rw [if_neg (by omega), if_neg (by omega), List.getElem?_append_left (by omega), List.getElem?_take, if_pos h1]
    · rw [List.getElem?_append_right (by omega), ha]
      by_cases h2 : i < a + n
      · rw [if_neg (by omega), if_pos (by omega), List.getElem?_append_left (by omega)]
      · rw [if_pos (by omega), List.getElem?_append_right (by omega)]
        congr 1; omega
  · rw [if_neg h, List.getElem?_eq_none (by simp only [List.length_append, ha]; omega)]
def encEntry (x : Raw 2) : List Value := x.val
theorem encEntry_len (x : Raw 2) : (encEntry x).length = 2 := x.len
theorem encEntry_one (x : Raw 2) : ∀ u ∈ encEntry x, u.oneCell' = true := x.one
theorem encEntry_d : rawD 2 = Dt.flat 2 encEntry encEntry_len encEntry_one := rfl
theorem onesEntry (l : List (Raw 2)) : ∀ v ∈ (l.map encEntry).flatten, v.oneCell' = true := fun v hv => by
  obtain ⟨c, hc, hv⟩ := List.mem_flatten.1 hv
  obtain ⟨x, _, rfl⟩ := List.mem_map.1 hc
  exact encEntry_one x v hv
theorem sizeEntryI : (Try.prog.info? 106).map (·.size) = some 2 := by
  obtain ⟨i0, hi0, h0, h1, h2⟩ := info_parts infoRawE
  rw [hi0]; simp [h1]
theorem rowcsEntry {w : World} {B : Nat} {cur : Array Value} {l : List (Raw 2)} (hB : w.heap[B]? = some (.cells cur 106 (0, 0))) (ht : cur.toList.take (l.length * 2) = (l.map encEntry).flatten) : ∀ j v, ((l.map encEntry).flatten)[j]? = some v → w.cell? ⟨B, j, none⟩ = some v := fun j v hj => by
  rw [cell_block hB, ← Array.getElem?_toList]
  rw [← ht, List.getElem?_take] at hj
  split at hj
  · exact hj
  · cases hj
theorem dropsEntry (l : List (Raw 2)) (k : Nat) : ((l.drop k).map encEntry).flatten = ((l.map encEntry).flatten).drop (k * 2) := by
  have h1 : (l.map encEntry).flatten = ((l.take k).map encEntry).flatten ++ ((l.drop k).map encEntry).flatten := by rw [← List.flatten_append, ← List.map_append, List.take_append_drop]
  by_cases hk : k ≤ l.length
  · have h2 : ((l.take k).map encEntry).flatten.length = k * 2 := by rw [encs_len _ encEntry_len, List.length_take, Nat.min_eq_left hk]
    have h3 : (((l.take k).map encEntry).flatten).drop (k * 2) = [] := List.drop_eq_nil_of_le (Nat.le_of_eq h2)
    rw [h1, List.drop_append_of_le_length (Nat.le_of_eq h2.symm), h3]; rfl
  · have hl := encs_len l encEntry_len
    have h2 : l.length * 2 ≤ k * 2 := Nat.mul_le_mul_right _ (by omega)
    have e1 : l.drop k = [] := List.drop_eq_nil_of_le (by omega)
    have e2 : ((l.map encEntry).flatten).drop (k * 2) = [] := List.drop_eq_nil_of_le (by omega)
    rw [e1, e2]; rfl
theorem dropcsEntry {w : World} {B k : Nat} {cur : Array Value} {l : List (Raw 2)} (hB : w.heap[B]? = some (.cells cur 106 (0, 0))) (ht : cur.toList.take (l.length * 2) = (l.map encEntry).flatten) : ∀ j v, (((l.drop k).map encEntry).flatten)[j]? = some v → w.cell? ((⟨B, k * 2, none⟩ : Addr).add j) = some v := fun j v hj => by
  rw [Addr.add_lit]
  rw [dropsEntry, List.getElem?_drop] at hj
  exact rowcsEntry hB ht _ v hj
set_option maxHeartbeats 4000000 in
set_option maxRecDepth 100000 in
theorem insShiftEntry_c (B cap : Nat) (cur : Array Value) (l : List (Raw 2)) (k q : Nat) (x : Raw 2) (w : World) (hk : k < l.length) (hc : l.length + 1 ≤ cap) (hm : cap ≤ 9223372036854775807)
    (hB : w.heap[B]? = some (.cells cur 106 (0, 0))) (hsz : cur.size = cap * 2) (ht : cur.toList.take (l.length * 2) = (l.map encEntry).flatten) (hq : w.heap[q]? = some (.cells (encEntry x).toArray 106 (0, 0))) (hqB : q ≠ B) :
    Calls Try.prog 138 #[.slice (some ⟨B, 0, none⟩) l.length cap, .int .i64 k, .slice (some ⟨q, 0, none⟩) 1 1] w fun e w' =>
      e = .returned (.slice (some ⟨B, 0, none⟩) (l.length + 1) cap) ∧ w' = putCells (putCells w.drew B ((k + 1) * 2) ((l.drop k).map encEntry).flatten) B (k * 2) (encEntry x) := by
  have hxl : (encEntry x).length = 2 := encEntry_len x
  have hov : ∀ lb cb, (callFunc 169 #[.slice (some ⟨q, 0, none⟩) 1 1, .slice (some ⟨B, (k + 1) * 2, none⟩) lb cb]).run Try.prog w = .ok (.value (.bool false)) w := fun lb cb => by
    rw [run_callFunc_extern (Try.func169) (by kernel_rfl) (by kernel_rfl) (by kernel_rfl) (e := Extern.SlicesOverlaps.overlaps #[31, 31] #[4]) (by kernel_rfl),
      Lib.run_overlaps_apart w 31 4 106 Try.underlying31 2 Try.sizeOf106 ⟨q, 0, none⟩ ⟨B, (k + 1) * 2, none⟩ 1 1 lb cb hqB 106 106 2 cur.size (by simp [World.shape?, hq, hxl]) (by simp [World.shape?, hB]) (by omega) (frozen_block hq) (frozen_block hq)]
    rfl
  have hdl : ((l.drop k).map encEntry).flatten.length = (l.length - k) * 2 := by rw [encs_len _ encEntry_len, List.length_drop]
  have hB1 : w.drew.heap[B]? = some (.cells cur 106 (0, 0)) := hB
  have hfit : (k + 1) * 2 + (l.length - k) * 2 ≤ cur.size := by rw [hsz, ← Nat.add_mul]; exact Nat.mul_le_mul_right _ (by omega)
  have hcp1 : ∀ ty dc sc, (Builtin.copy_ #[31, 31] ty #[.slice (some ⟨B, (k + 1) * 2, none⟩) (l.length - k) dc, .slice (some ⟨B, k * 2, none⟩) (l.length + 1 - k) sc]).run Try.prog w.drew = .ok (goInt (l.length - k : Nat)) (putCells w.drew B ((k + 1) * 2) ((l.drop k).map encEntry).flatten) := fun ty dc sc =>
    run_copy_flat w.drew _ _ ty 106 2 B ((k + 1) * 2) (l.length - k) dc ⟨B, k * 2, none⟩ (l.length + 1 - k) sc (l.length - k) _ Try.underlying31 sizeEntryI (by simp only [Nat.min_def]; split <;> omega) hdl (dropcsEntry hB1 ht) (fun j hj => some_put hB1 _ (by omega)) (fun j hj => frozen_block hB1) (onesEntry _)
  obtain ⟨W1, hW1⟩ : ∃ W1, W1 = putCells w.drew B ((k + 1) * 2) ((l.drop k).map encEntry).flatten := ⟨_, rfl⟩
  rw [← hW1] at hcp1
  obtain ⟨cur1, hb1, hs1⟩ := putCells_block ((l.drop k).map encEntry).flatten w.drew B ((k + 1) * 2) hB1
  rw [← hW1] at hb1
  have hz1 : cur1.size = cur.size := by
    have := congrArg List.length hs1
    rw [segSet_len] at this
    simpa using this
  have hq1 : W1.heap[q]? = some (.cells (encEntry x).toArray 106 (0, 0)) := by rw [hW1, putCells_other _ _ _ _ hqB]; exact hq
  have hcp2 : ∀ (W : World), W.heap = W1.heap → ∀ ty dc, (Builtin.copy_ #[31, 31] ty #[.slice (some ⟨B, k * 2, none⟩) (l.length + 1 - k) dc, .slice (some ⟨q, 0, none⟩) 1 1]).run Try.prog W = .ok (goInt (1 : Nat)) (putCells W B (k * 2) (encEntry x)) := fun W hWh ty dc =>
    run_copy_flat W _ _ ty 106 2 B (k * 2) (l.length + 1 - k) dc ⟨q, 0, none⟩ 1 1 1 _ Try.underlying31 sizeEntryI (by simp only [Nat.min_def]; split <;> omega) (by rw [hxl])
      (fun j v hj => by
        rw [Addr.add_lit, Nat.zero_add, cell_block (show W.heap[q]? = _ by rw [hWh]; exact hq1), ← Array.getElem?_toList]; exact hj)
      (fun j hj => some_put (show W.heap[B]? = _ by rw [hWh]; exact hb1) _ (by rw [hxl] at hj; omega)) (fun j hj => frozen_block (show W.heap[B]? = _ by rw [hWh]; exact hb1)) (encEntry_one x)
  have mixed : Try.prog.follows .mixedOrders = true := by kernel_rfl
  have hz2 : ¬ ((k : Int) = (l.length : Int)) := by omega
  have hw1 : IntKind.i64.wrap ((k : Int) + 1) = (k : Int) + 1 := IntWalk.i64_in _ (by omega)
  have hin : k ≤ l.length := by omega
  have htn : ((k : Int) + 1).toNat = k + 1 := by omega
  have hb2 : ¬ (cap = k + 1) := by omega
  have hb3 : (k : Int) ≤ (l.length : Int) + 1 := by omega
  have hb4 : ¬ (cap = k) := by omega
  have hb5 : (0 : Int) ≤ (k : Int) + 1 := by omega
  clear hB hq hB1 hb1 hq1 hs1 ht hdl hfit hz1 hsz hxl
  go_enter Try.func138, Try.ntmps138
  go_wp2_with (simp only [hov])
  go_region_law_o (refine step_copy_runI rfl _ _ 31 31 rfl _ _ (by simp [Act.eval, Act.put]) (by simp [Act.eval, Act.put]) (hcp1 _ _ _) ?_)
  go_wp2_with (at_builtin; refine wpList_copy_runI _ rfl _ _ 31 31 rfl _ _ rfl rfl (hcp2 _ rfl _ _) ?_)
  go_ret
  exact ⟨rfl, by rw [List.map_drop]⟩
set_option maxHeartbeats 4000000 in
set_option maxRecDepth 100000 in
theorem insGrowEntry_c (B cap : Nat) (cur : Array Value) (l : List (Raw 2)) (k q : Nat) (x : Raw 2) (w : World) (hk : k < l.length) (hcl : l.length ≤ cap) (hc : cap < l.length + 1) (hlen : l.length < 1048576)
    (hB : w.heap[B]? = some (.cells cur 106 (0, 0))) (hsz : cur.size = cap * 2) (ht : cur.toList.take (l.length * 2) = (l.map encEntry).flatten) (hq : w.heap[q]? = some (.cells (encEntry x).toArray 106 (0, 0))) :
    Calls Try.prog 138 #[.slice (some ⟨B, 0, none⟩) l.length cap, .int .i64 k, .slice (some ⟨q, 0, none⟩) 1 1] w fun e w' => ∃ (G : Nat) (ROW : Array Value) (V : World),
      e = .returned (.slice (some ⟨w.heap.size, 0, none⟩) (l.length + 1) G) ∧ l.length + 1 ≤ G ∧ G ≤ 9223372036854775807 ∧ ROW.size = G * 2 ∧ ROW.toList.take (k * 2) = ((l.take k).map encEntry).flatten ∧
      V.heap = (w.alloc (.cells ROW 106)).heap ∧ Below w.heap.size w V ∧ w' = putCells ((putCells V w.heap.size (k * 2) (encEntry x)).drew) w.heap.size ((k + 1) * 2) ((l.drop k).map encEntry).flatten := by
  have hxl : (encEntry x).length = 2 := encEntry_len x
  have htl : ((l.take k).map encEntry).flatten.length = k * 2 := by rw [encs_len _ encEntry_len, List.length_take, Nat.min_eq_left (by omega)]
  have hdl : ((l.drop k).map encEntry).flatten.length = (l.length - k) * 2 := by rw [encs_len _ encEntry_len, List.length_drop]
  obtain ⟨i0, hi0, hz0, hzs, hzb⟩ := info_parts infoRawE
  have hBw := block_lt hB
  have hqw := block_lt hq
  have hkk : (l.length : Int) + 1 - (k : Int) = ((l.length + 1 - k : Nat) : Int) := by omega
  have hik : k + (l.length + 1 - k) = l.length + 1 := by omega
  have htk : cur.toList.take (k * 2) = ((l.take k).map encEntry).flatten := by
    rw [List.map_take, ← flatten_take k _ (fun c hc => by obtain ⟨y, _, rfl⟩ := List.mem_map.1 hc; exact encEntry_len y), ← ht, List.take_take, Nat.min_eq_left (Nat.mul_le_mul_right _ (by omega))]
  have hold : (Builtin.firstCells i0.size k (.slice (some ⟨B, 0, none⟩) k cap)).run Try.prog w.drew = .ok (((l.take k).map encEntry).flatten).toArray w.drew := by
    rw [hzs]
    exact run_firstCells_some w.drew 2 k ⟨B, 0, none⟩ k cap _ htl (fun j v hj => by
      rw [Addr.add_lit, Nat.zero_add]
      rw [← htk, List.getElem?_take] at hj
      split at hj
      · rw [cell_block (show w.drew.heap[B]? = _ from hB), ← Array.getElem?_toList]; exact hj
      · cases hj)
  obtain ⟨G, hG⟩ : ∃ G, G = grownCap w (l.length + 1) cap 106 := ⟨_, rfl⟩
  obtain ⟨ROW, hROW⟩ : ∃ ROW : Array Value, ROW = (((l.take k).map encEntry).flatten).toArray ++ Builtin.zeroCells (.agg #[(.string ⟨#[]⟩), (.slice none 0 0)] : Value).cells (l.length + 1 - k) ++ Builtin.zeroCells (.agg #[(.string ⟨#[]⟩), (.slice none 0 0)] : Value).cells (G - (l.length + 1)) := ⟨_, rfl⟩
  have hrz : ∀ ty, (Builtin.append_ #[31, 3] ty #[.slice (some ⟨B, 0, none⟩) k cap, .int .i64 ((l.length : Int) + 1 - (k : Int))]).run Try.prog w =
      .ok (.slice (some ⟨w.heap.size, 0, none⟩) (l.length + 1) G) (w.drew.alloc (.cells ROW 106)) := fun ty => by
    have h := Lib.run_append_grow_zeros w 31 3 ty 106 i0 _ .i64 .i64 Try.underlying31 Try.underlying3 hi0 hz0 (some ⟨B, 0, none⟩) k cap _ hold (l.length + 1 - k) (by omega) (by omega) (by omega) (by omega) (by rw [hzb]; omega) (by rw [hzb, hik]; exact growslice_fits hc (by omega))
    rw [hik, ← hG, ← hROW] at h
    rw [hkk]
    exact h
  have hGn : l.length + 1 ≤ G := by rw [hG]; exact grownCap_ge w _ _ _
  have hG63 : G ≤ 9223372036854775807 := by
    have := grownCap_le_maxLen w (l.length + 1) cap 106 (by unfold maxLen; omega)
    rw [← hG] at this
    unfold maxLen at this
    omega
  have hRl : ROW.size = G * 2 := by
    rw [hROW]
    simp only [Array.size_append, List.size_toArray, htl, size_zeroCells]
    have hz : (.agg #[(.string ⟨#[]⟩), (.slice none 0 0)] : Value).cells.size = 2 := rfl
    rw [hz, ← Nat.add_mul, ← Nat.add_mul]; congr 1; omega
  have hRt : ROW.toList.take (k * 2) = ((l.take k).map encEntry).flatten := by
    rw [hROW]
    simp only [Array.toList_append, List.append_assoc]
    rw [List.take_append_of_le_length (by simp only [htl]; exact Nat.le_refl _), List.take_of_length_le (by simp only [htl]; exact Nat.le_refl _)]
  obtain ⟨W1, hW1⟩ : ∃ W1, W1 = w.drew.alloc (.cells ROW 106) := ⟨_, rfl⟩
  rw [← hW1] at hrz
  have hnew : W1.heap[w.heap.size]? = some (.cells ROW 106 (0, 0)) := by rw [hW1]; exact alloc_new w.drew _
  have hBn : W1.heap[B]? = some (.cells cur 106 (0, 0)) := by rw [hW1]; exact (alloc_old w.drew _ hBw).trans hB
  have hqn : W1.heap[q]? = some (.cells (encEntry x).toArray 106 (0, 0)) := by rw [hW1]; exact (alloc_old w.drew _ hqw).trans hq
  have hbl : Below w.heap.size w W1 := by rw [hW1]; exact (Below.refl w.heap.size w).drew.alloc (Nat.le_refl _) _
  have hkG : k * 2 + 2 ≤ G * 2 := by rw [← Nat.succ_mul]; exact Nat.mul_le_mul_right _ (by omega)
  have hkG2 : (k + 1) * 2 + (l.length - k) * 2 ≤ G * 2 := by rw [← Nat.add_mul]; exact Nat.mul_le_mul_right _ (by omega)
  have hcpA : ∀ (W : World), W.heap = W1.heap → ∀ ty dc, (Builtin.copy_ #[31, 31] ty #[.slice (some ⟨w.heap.size, k * 2, none⟩) (l.length + 1 - k) dc, .slice (some ⟨q, 0, none⟩) 1 1]).run Try.prog W = .ok (goInt (1 : Nat)) (putCells W w.heap.size (k * 2) (encEntry x)) := fun W hWh ty dc =>
    run_copy_flat W _ _ ty 106 2 w.heap.size (k * 2) (l.length + 1 - k) dc ⟨q, 0, none⟩ 1 1 1 _ Try.underlying31 sizeEntryI (by simp only [Nat.min_def]; split <;> omega) (by rw [hxl])
      (fun j v hj => by
        rw [Addr.add_lit, Nat.zero_add, cell_block (show W.heap[q]? = _ by rw [hWh]; exact hqn), ← Array.getElem?_toList]; exact hj)
      (fun j hj => some_put (show W.heap[w.heap.size]? = _ by rw [hWh]; exact hnew) _ (by rw [hxl] at hj; omega)) (fun j hj => frozen_block (show W.heap[w.heap.size]? = _ by rw [hWh]; exact hnew)) (encEntry_one x)
  have hcpB : ∀ (W : World) (cur2 : Array Value), W.heap[B]? = some (.cells cur 106 (0, 0)) → W.heap[w.heap.size]? = some (.cells cur2 106 (0, 0)) → cur2.size = G * 2 → ∀ ty dc sc, (Builtin.copy_ #[31, 31] ty #[.slice (some ⟨w.heap.size, (k + 1) * 2, none⟩) (l.length - k) dc, .slice (some ⟨B, k * 2, none⟩) (l.length - k) sc]).run Try.prog W = .ok (goInt (l.length - k : Nat)) (putCells W w.heap.size ((k + 1) * 2) ((l.drop k).map encEntry).flatten) := fun W cur2 hWB hWn hz ty dc sc =>
    run_copy_flat W _ _ ty 106 2 w.heap.size ((k + 1) * 2) (l.length - k) dc ⟨B, k * 2, none⟩ (l.length - k) sc (l.length - k) _ Try.underlying31 sizeEntryI (by simp) hdl (dropcsEntry hWB ht) (fun j hj => some_put hWn _ (by omega)) (fun j hj => frozen_block hWn) (onesEntry _)
  obtain ⟨cur2, hb2, hs2⟩ := putCells_block (encEntry x) W1 w.heap.size (k * 2) hnew
  have hz2 : cur2.size = G * 2 := by
    have := congrArg List.length hs2
    rw [segSet_len] at this
    simp only [Array.length_toList] at this; omega
  have hBn2 : (putCells W1 w.heap.size (k * 2) (encEntry x)).heap[B]? = some (.cells cur 106 (0, 0)) := by rw [putCells_other _ _ _ _ (by omega)]; exact hBn
  have hcpC : ∀ (W : World), W.heap = (putCells W1 w.heap.size (k * 2) (encEntry x)).heap → _ := fun W hWh => hcpB W cur2 (by rw [hWh]; exact hBn2) (by rw [hWh]; exact hb2) hz2
  have mixed : Try.prog.follows .mixedOrders = true := by kernel_rfl
  have hz3 : ¬ ((k : Int) = (l.length : Int)) := by omega
  have hz4 : (cap : Int) < (l.length : Int) + 1 := by omega
  have hGi : ¬ (G = k) := by omega
  have hGim : ¬ (G = k + 1) := by omega
  have hci : ¬ (cap = k) := by omega
  have hw1 : IntKind.i64.wrap ((k : Int) + 1) = (k : Int) + 1 := IntWalk.i64_in _ (by omega)
  have hb1 : (0 : Int) ≤ (k : Int) + 1 := by omega
  have hin : k ≤ l.length := by omega
  have htn : ((k : Int) + 1).toNat = k + 1 := by omega
  have hb3 : (k : Int) ≤ (l.length : Int) := by omega
  clear hkk hik hold hROW hG hB hq hBn hqn hb2 hs2 hBn2 hnew ht hcpB htk htl hdl hsz hz2 hkG hkG2
  go_enter Try.func138, Try.ntmps138
  go_wp2_with (first
    | (at_builtin; refine Lib.wpList_append_run _ rfl _ _ _ _ rfl _ _ rfl rfl _ _ (hrz _) ?_)
    | (at_builtin; refine wpList_copy_runI _ rfl _ _ 31 31 rfl _ _ rfl rfl (hcpA _ (by rw [hW1]; rfl) _ _) ?_))
  go_region_law_o (refine step_copy_runI rfl _ _ 31 31 rfl (.slice (some ⟨w.heap.size, (k + 1) * 2, none⟩) (l.length - k) (G - (k + 1))) (.slice (some ⟨B, k * 2, none⟩) (l.length - k) (cap - k)) (by simp [Act.eval, Act.put]) (by simp [Act.eval, Act.put]) (hcpC _ (by rw [hW1]; rfl) 3 (G - (k + 1)) (cap - k)) ?_)
  go_wp2_with fail
  go_ret
  exact ⟨G, ROW, (w.alloc (.cells ROW 106)).drew, rfl, hGn, hG63, hRl, hRt, rfl, ((Below.refl w.heap.size w).alloc (Nat.le_refl _) _).drew, by rw [List.map_drop]⟩
theorem insEncEntry (l : List (Raw 2)) (k : Nat) (x : Raw 2) : ((l.take k ++ x :: l.drop k).map encEntry).flatten = ((l.take k).map encEntry).flatten ++ (encEntry x ++ ((l.drop k).map encEntry).flatten) := by simp
set_option maxHeartbeats 4000000 in
set_option maxRecDepth 100000 in
theorem insEndEntry_c (l : List (Raw 2)) (A : Option Addr) (c : Nat) (F : List Nat) (w0 W : World) (L : List Piece) (q : Nat) (x : Raw 2) (hS : St w0 W (blk q (encEntry x).toArray 106 :: own (rawD 2) 106 (.slice A l.length c) l F :: L)) (hlen : l.length < 1048576) :
    Calls Try.prog 138 #[.slice A l.length c, .int .i64 l.length, .slice (some ⟨q, 0, none⟩) 1 1] W (RetOwn (rawD 2) 106 w0 L (l ++ [x])) := by
  have HS := hide hS
  have hlc : l.length ≤ c := by obtain ⟨A2, c2, hv, h2, h3, _⟩ := hS.drop.toK; simp only [Value.slice.injEq] at hv; omega
  clear hS
  go_enter Try.func138, Try.ntmps138
  go_wp2_with (
    at_builtin
    refine wpList_app1_st (d := rawD 2) (w0 := w0) rfl _ rfl _ _ _ rfl (.agg #[(.string ⟨#[]⟩), (.slice none 0 0)]) 40 Try.underlying31 infoRawE rfl (by omega) (by omega) (.slice A l.length c) l F rfl q (encEntry x).toArray HS.out 1 rfl x rfl hlen ?_
    intro g2 cap2 w3 F3 hS3
    have HS3 := hide hS3
    clear hS3)
  all_goals
    go_ret
    exact ⟨some ⟨g2, 0, none⟩, cap2, F3, by rw [List.length_append]; rfl, by rw [List.length_append]; exact HS3.out⟩
theorem insEntry_c (k : Nat) (l : List (Raw 2)) (A : Option Addr) (c : Nat) (F : List Nat) (w0 W : World) (L : List Piece) (q : Nat) (x : Raw 2) (hS : St w0 W (blk q (encEntry x).toArray 106 :: own (rawD 2) 106 (.slice A l.length c) l F :: L)) (hk : k ≤ l.length) (hlen : l.length < 1048576) :
    Calls Try.prog 138 #[.slice A l.length c, .int .i64 k, .slice (some ⟨q, 0, none⟩) 1 1] W (RetOwn (rawD 2) 106 w0 L (l.take k ++ x :: l.drop k)) := by
  by_cases hkn : k = l.length
  · subst hkn
    refine (insEndEntry_c l A c F w0 W L q x hS hlen).mono fun e w' h => ?_
    rwa [show l ++ [x] = l.take l.length ++ x :: l.drop l.length by simp] at h
  · have hlt : k < l.length := by omega
    have hxl : (encEntry x).length = 2 := encEntry_len x
    have hil : (l.take k ++ x :: l.drop k).length = l.length + 1 := by simp; omega
    have hdl : ((l.drop k).map encEntry).flatten.length = (l.length - k) * 2 := by rw [encs_len _ encEntry_len, List.length_drop]
    have he1 : (k + 1) * 2 = k * 2 + 2 := Nat.succ_mul k 2
    have he2 : (l.length + 1) * 2 = k * 2 + 2 + (l.length - k) * 2 := by rw [← Nat.succ_mul, ← Nat.add_mul]; congr 1; omega
    rcases flat_M (show SliceM (Dt.flat 2 encEntry encEntry_len encEntry_one) 106 W (.slice A l.length c) l F from hS.drop.head) with ⟨_, rfl, _⟩ | ⟨B, cap, cur, hv, hl, hm, hcur, hsz, htk, rfl⟩
    · simp at hlt
    simp only [Value.slice.injEq, true_and] at hv
    obtain ⟨rfl, rfl⟩ := hv
    have hap := St.apart (d := rawD 2) rfl hS
    have hq : W.heap[q]? = some (.cells (encEntry x).toArray 106 (0, 0)) := hS.head
    have hcl : cur.toList.length = cur.size := Array.length_toList
    have htk2 : cur.toList.take (k * 2) = ((l.take k).map encEntry).flatten := by
      rw [List.map_take, ← flatten_take k _ (fun c hc => by obtain ⟨y, _, rfl⟩ := List.mem_map.1 hc; exact encEntry_len y), ← htk, List.take_take, Nat.min_eq_left (Nat.mul_le_mul_right _ (by omega))]
    by_cases hroom : l.length + 1 ≤ c
    · have hfit : (l.length + 1) * 2 ≤ c * 2 := Nat.mul_le_mul_right _ hroom
      refine (insShiftEntry_c B c cur l k q x W hlt hroom hm hcur hsz htk hq hap.2).mono ?_
      rintro e w' ⟨rfl, rfl⟩
      obtain ⟨cur1, hb1, hs1⟩ := putCells_block ((l.drop k).map encEntry).flatten W.drew B ((k + 1) * 2) (cur := cur) hcur
      obtain ⟨cur2, hb2, hs2⟩ := putCells_block (encEntry x) (putCells W.drew B ((k + 1) * 2) ((l.drop k).map encEntry).flatten) B (k * 2) hb1
      have hz2 : cur2.size = c * 2 := by
        have := congrArg List.length hs2
        rw [segSet_len, hs1, segSet_len] at this
        simp only [Array.length_toList] at this; omega
      refine ⟨some ⟨B, 0, none⟩, c, [B], by rw [hil], ?_⟩
      rw [hil]
      refine hS.drop.turn (A' := own (rawD 2) 106 (.slice (some ⟨B, 0, none⟩) (l.length + 1) c) (l.take k ++ x :: l.drop k) [B]) (putCells_chg _ _ _ (putCells_chg _ _ _ (Chg.refl _ _).drew (.inl (by simp [own]))) (.inl (by simp [own]))) ?_ (by simp [own]) (fun b hb => .inl hb)
      have h := flat_M_mk (n := 2) (enc := encEntry) (hl := encEntry_len) (h1 := encEntry_one) (xs := l.take k ++ x :: l.drop k) (cap := c) (by omega) hm hb2 hz2 (by
        rw [hil, insEncEntry, hs2, hs1, he2, he1]
        exact seg_down htk2 hxl hdl (by omega))
      rw [hil] at h
      exact h
    · refine (insGrowEntry_c B c cur l k q x W hlt hl (by omega) hlen hcur hsz htk hq).mono ?_
      rintro e w' ⟨G, ROW, V, rfl, hG, hG63, hR, hRt, hVh, hVb, rfl⟩
      have hfit : (l.length + 1) * 2 ≤ G * 2 := Nat.mul_le_mul_right _ hG
      have hVn : V.heap[W.heap.size]? = some (.cells ROW 106 (0, 0)) := by rw [hVh]; exact alloc_new W _
      obtain ⟨cur1, hb1, hs1⟩ := putCells_block (encEntry x) V W.heap.size (k * 2) hVn
      obtain ⟨cur2, hb2, hs2⟩ := putCells_block ((l.drop k).map encEntry).flatten (putCells V W.heap.size (k * 2) (encEntry x)).drew W.heap.size ((k + 1) * 2) (cur := cur1) hb1
      have hRl : ROW.toList.length = ROW.size := Array.length_toList
      have hz2 : cur2.size = G * 2 := by
        have := congrArg List.length hs2
        rw [segSet_len, hs1, segSet_len] at this
        simp only [Array.length_toList] at this; omega
      refine ⟨some ⟨W.heap.size, 0, none⟩, G, [W.heap.size], by rw [hil], ?_⟩
      rw [hil]
      refine hS.drop.turn (A' := own (rawD 2) 106 (.slice (some ⟨W.heap.size, 0, none⟩) (l.length + 1) G) (l.take k ++ x :: l.drop k) [W.heap.size]) (putCells_chg _ _ _ (putCells_chg _ _ _ (Chg.of_below hVb _) (.inr (Nat.le_refl _))).drew (.inr (Nat.le_refl _))) ?_ (by simp [own]) (fun b hb => .inr (by simp [own] at hb; omega))
      have h := flat_M_mk (n := 2) (enc := encEntry) (hl := encEntry_len) (h1 := encEntry_one) (xs := l.take k ++ x :: l.drop k) (cap := G) (by omega) hG63 hb2 hz2 (by
        rw [hil, insEncEntry, hs2, hs1, he2, he1]
        exact seg_up hRt hxl hdl (by omega))
      rw [hil] at h
      exact h
end Go.Proofs.Yticjphaagmnahaa
