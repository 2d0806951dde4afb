/- The laws' own helpers on lists of texts: size, copy, equality, marks. -/
import Derived.Test.YticjphaagmnahaaRGround
namespace Go.Proofs.Yticjphaagmnahaa
open Go Go.RowKit Go.BigFrame
attribute [local go_sem] Calm.cell Calm.frozen
set_option linter.unusedVariables false
set_option linter.unusedSimpArgs false

def sizeStr (x : ByteArray) : Nat := x.size
def okStr (x : ByteArray) : Prop := x.size ≤ 9223372036854775807
set_option maxHeartbeats 2000000 in
theorem szStringS_c (v : Value) (a : List ByteArray) (left : Int) (w : World) (ha : SliceK strD w v a) (h0 : 0 ≤ left) (h1 : left ≤ 1048576) (hok : ∀ x ∈ a, okStr x) :
    Calls Try.prog 12 #[v, .int .i64 left] w fun e w' => RetSz left (a.length + sizeAll sizeStr a) e ∧ Below w.heap.size w w' := by
  obtain ⟨A, c, rfl, hl1, hm1, hra⟩ := ha
  have HA := hide hra
  have HOK := hide hok
  clear hok hra
  by_cases h : (a.length : Int) ≤ left
  · have h2 : ¬ (left - (a.length : Int) < 0) := by omega
    go_enter Try.func12, Try.ntmps12
    go_wp2
    go_loopg [1, 5] a.length (fun gg s1 s5 wr => ∃ (k : Nat) (q : Int), k ≤ a.length ∧ a.length - k ≤ gg ∧ s1 = .int .i64 q ∧ s5 = .int .i64 k ∧ 0 ≤ q ∧ q ≤ 1048576 ∧ Hid (q = left - a.length - sizeAll sizeStr (a.take k)) ∧ Hid (Below w.heap.size w wr))
    case atStart => exact ⟨0, left - a.length, Nat.zero_le _, by omega, rfl, rfl, by omega, by omega, hide (by simp [sizeAll]), Below.refl _ _⟩
    case round =>
      obtain ⟨k, q, hk, hg, rfl, rfl, hq0, hq1, HQ, HW⟩ := hrel
      by_cases hlt : k < a.length
      · obtain ⟨x, hx⟩ : ∃ x, a[k]? = some x := ⟨_, List.getElem?_eq_getElem hlt⟩
        rcases HA.out with rfl | ⟨p, o, rfl, hra⟩
        · simp at hlt
        obtain ⟨hp, hc⟩ := str_at hra HW.out hx
        have HX := hide hx
        have hokx : x.size ≤ 9223372036854775807 := HOK.out x (List.mem_of_getElem? hx)
        clear hx hra HA
        by_cases hs : q - (x.size : Int) < 0
        · go_wp2_with fail
          have hT := sizeAll_take sizeStr a k x HX.out
          have hL := sizeAll_le sizeStr a (k + 1)
          have h8 : sizeStr x = x.size := rfl
          have := HQ.out
          go_ret
          exact ⟨⟨_, rfl, by unfold szR; rw [if_neg (by omega)]⟩, HW.out⟩
        · go_wp2_with fail
          have hT := sizeAll_take sizeStr a k x HX.out
          have h8 : sizeStr x = x.size := rfl
          have := HQ.out
          go_roundg (a.length - (k + 1))
          case measure => omega
          case rel => exact ⟨k + 1, q - x.size, by omega, by omega, by go_num, by go_num, by omega, by omega, hide (by rw [hT]; omega), HW⟩
      · have : k = a.length := by omega
        subst this
        go_wp2
        go_ret
        have := HQ.out
        rw [List.take_length] at this
        exact ⟨⟨_, rfl, by unfold szR; rw [if_pos (by omega)]; omega⟩, HW.out⟩
  · have hr := hide (show -1 = szR left (a.length + sizeAll sizeStr a) from (if_neg (by omega)).symm)
    have h2 : (left - (a.length : Int) < 0) := by omega
    go_enter Try.func12, Try.ntmps12
    go_wp2
    go_ret
    exact ⟨⟨_, rfl, hr.out⟩, Below.refl _ _⟩
set_option maxHeartbeats 2000000 in
theorem eqStringS_c (va vb : Value) (a b : List ByteArray) (w : World) (ha : SliceK strD w va a) (hb : SliceK strD w vb b) :
    Calls Try.prog 19 #[va, vb] w fun e w' => e = .returned (.bool (decide (a = b))) ∧ Below w.heap.size w w' := by
  obtain ⟨A, c, rfl, hl1, hm1, hra⟩ := ha
  obtain ⟨B, c', rfl, hl2, hm2, hrb⟩ := hb
  by_cases hlen : a.length = b.length
  · have hne : (((a.length : Nat) : Int) != ((b.length : Nat) : Int)) = false := by simp [hlen]
    have HL := hide hlen
    have HA := hide hra
    have HB := hide hrb
    clear hlen hra hrb
    go_enter Try.func19, Try.ntmps19
    go_wp2
    go_loopg [5] a.length (fun gg s5 wr => ∃ k : Nat, k ≤ a.length ∧ a.length - k ≤ gg ∧ s5 = .int .i64 k ∧ Hid (a.take k = b.take k) ∧ Hid (Below w.heap.size w wr))
    case atStart => exact ⟨0, Nat.zero_le _, by omega, rfl, rfl, Below.refl _ _⟩
    case round =>
      obtain ⟨k, hk, hg, rfl, HT, HW⟩ := hrel
      by_cases hlt : k < a.length
      · obtain ⟨x, hx⟩ : ∃ x, a[k]? = some x := ⟨_, List.getElem?_eq_getElem hlt⟩
        obtain ⟨y, hy⟩ : ∃ y, b[k]? = some y := ⟨_, List.getElem?_eq_getElem (by have := HL.out; omega)⟩
        have hkb : k < b.length := by have := HL.out; omega
        rcases HA.out with rfl | ⟨p, o, rfl, hra⟩
        · simp at hlt
        rcases HB.out with rfl | ⟨p', o', rfl, hrb⟩
        · simp at hkb
        obtain ⟨hp, hc⟩ := str_at hra HW.out hx
        obtain ⟨hp', hc'⟩ := str_at hrb HW.out hy
        have HX := hide hx
        have HY := hide hy
        clear hx hy hra hrb HA HB
        by_cases hxy : x = y
        · subst hxy
          go_wp2
          go_quiet (fail)
          go_wp2
          go_roundg (a.length - (k + 1))
          case measure => omega
          case rel => exact ⟨k + 1, by omega, by omega, by go_num, hide (by rw [List.take_add_one, List.take_add_one, HX.out, HY.out, HT.out]), hide (below_drewN HW.out _)⟩
        · have hb0 : (x.toList == y.toList) = false := beq_eq_false_iff_ne.2 fun e => hxy (bytes_eq.1 e)
          have HXY := hide hxy
          clear hxy
          go_wp2
          go_quiet (fail)
          go_wp2
          go_ret
          exact ⟨by rw [eqAll_pre HT.out HX.out HY.out HXY.out]; rfl, below_drewN HW.out _⟩
      · have : k = a.length := by omega
        subst this
        go_wp2
        go_ret
        exact ⟨by rw [show decide (a = b) = true from by rw [decide_eq_true_iff]; have := HT.out; rw [List.take_length] at this; rw [this, HL.out, List.take_length]]; rfl, HW.out⟩
  · have hne : (((a.length : Nat) : Int) != ((b.length : Nat) : Int)) = true := by simp; omega
    have he : decide (a = b) = false := by exact decide_eq_false (by rintro rfl; exact hlen rfl)
    have HE := hide he
    clear he hlen hra hrb
    go_enter Try.func19, Try.ntmps19
    go_wp2
    go_ret
    exact ⟨by rw [HE.out]; rfl, Below.refl _ _⟩

/-! ### copy -/
theorem take_set_str {cur : List Value} {xs : List ByteArray} {k : Nat} {x : ByteArray} (h : cur.take k = (xs.take k).map (Value.string)) (hx : xs[k]? = some x) (hk : k < cur.length) :
    (cur.set k (.string x)).take (k + 1) = (xs.take (k + 1)).map (Value.string) := by
  rw [List.take_add_one, List.take_add_one, hx, List.take_set_of_le (Nat.le_refl _), h]
  simp [hk]
theorem strs_flat (xs : List ByteArray) : (xs.map fun x : ByteArray => [Value.string x]).flatten = xs.map (Value.string) := by
  induction xs with
  | nil => rfl
  | cons x xs ih => simp [ih]
theorem str_M_mk {w : World} {e : TypeId} {xs : List ByteArray} {b cap : Nat} {cur : Array Value} (h2 : xs.length ≤ cap) (h3 : cap ≤ 9223372036854775807) (hh : w.heap[b]? = some (.cells cur e (0, 0)))
    (h4 : cur.size = cap) (h5 : cur.toList.take xs.length = xs.map (Value.string)) : SliceM strD e w (.slice (some ⟨b, 0, none⟩) xs.length cap) xs [b] :=
  flat_M_mk h2 h3 hh (by omega) (by rw [Nat.mul_one, h5, strs_flat])
theorem str_M {w : World} {e : TypeId} {v : Value} {xs : List ByteArray} {F : List Nat} (h : SliceM strD e w v xs F) :
    (v = .slice none 0 0 ∧ xs = [] ∧ F = []) ∨ ∃ b cap cur, v = .slice (some ⟨b, 0, none⟩) xs.length cap ∧ xs.length ≤ cap ∧ cap ≤ 9223372036854775807 ∧
      w.heap[b]? = some (.cells cur e (0, 0)) ∧ cur.size = cap ∧ cur.toList.take xs.length = xs.map (Value.string) ∧ F = [b] := by
  rcases flat_M h with h | ⟨b, cap, cur, hv, h2, h3, hh, h4, h5, hF⟩
  · exact .inl h
  · exact .inr ⟨b, cap, cur, hv, h2, h3, hh, by omega, by rw [Nat.mul_one, strs_flat] at h5; exact h5, hF⟩

theorem infoStr : (Try.prog.info? 9).map (fun i => (i.zero, i.size, i.bytes)) = some (some (.string ⟨#[]⟩), 1, 16) := by kernel_rfl
set_option maxHeartbeats 1000000 in
theorem toStringS_c (v : Value) (a : List ByteArray) (w : World) (ha : SliceK strD w v a) (hn : a.length ≤ 1048576) :
    Calls Try.prog 15 #[v] w (RetMade strD 9 w a) := by
  obtain ⟨A, c, rfl, hl1, hm1, hra⟩ := ha
  have HA := hide hra
  have hmk := run_mk (P := Try.prog) 25 9 (.string ⟨#[]⟩) 1 16 Try.underlying25 infoStr a.length (by omega) (by omega)
  clear hra
  go_enter Try.func15, Try.ntmps15
  go_wp2_with fail
  obtain ⟨B, hB⟩ : ∃ B, B = w.heap.size := ⟨_, rfl⟩
  have HBs := hide hB
  rw [← hB]
  have H0 : ∃ cur, (w.alloc (Obj.cells (mkRow (.string ⟨#[]⟩) a.length) 9)).heap[B]? = some (.cells cur 9 (0, 0)) ∧ cur.size = a.length ∧ cur.toList.take 0 = (a.take 0).map (Value.string) :=
    ⟨_, by rw [hB]; exact alloc_new w _, by rw [size_mkRow], rfl⟩
  have H0 := hide H0
  clear hB
  go_loopg [4] a.length (fun gg s4 wr => ∃ k : Nat, k ≤ a.length ∧ a.length - k ≤ gg ∧ s4 = .int .i64 k ∧ Hid (∃ cur, wr.heap[B]? = some (.cells cur 9 (0, 0)) ∧ cur.size = a.length ∧ cur.toList.take k = (a.take k).map (Value.string)) ∧ Hid (Below w.heap.size w wr))
  case atStart => exact ⟨0, Nat.zero_le _, by omega, rfl, H0, (Below.refl _ _).alloc (Nat.le_refl _) _⟩
  case round =>
    obtain ⟨k, hk, hg, rfl, HR, HW⟩ := hrel
    clear H0 hmk
    by_cases hlt : k < a.length
    · obtain ⟨x, hx⟩ : ∃ x, a[k]? = some x := ⟨_, List.getElem?_eq_getElem hlt⟩
      rcases HA.out with rfl | ⟨p, o, rfl, hra⟩
      · simp at hlt
      obtain ⟨hp, hc⟩ := str_at hra HW.out hx
      obtain ⟨cur, hcur, hsz, htk⟩ := HR.out
      have hlB := block_lt hcur
      obtain ⟨u0, hcB⟩ : ∃ u, wr.cell? ⟨B, k, none⟩ = some u := ⟨cur[k]'(by omega), by rw [cell_block hcur]; exact Array.getElem?_eq_getElem (by omega)⟩
      have hfB : wr.frozen? ⟨B, k, none⟩ = false := frozen_block hcur
      have HC := hide (And.intro hcur (And.intro hsz (And.intro htk hx)))
      clear HR hcur hsz htk hx hra HA
      go_wp2_with fail
      obtain ⟨hcur, hsz, htk, hx⟩ := HC.out
      have hge : w.heap.size ≤ B := Nat.le_of_eq HBs.out.symm
      go_roundg (a.length - (k + 1))
      case measure => omega
      case rel =>
        refine ⟨k + 1, by omega, by omega, by go_num, hide ⟨_, setCell_block _ _ _ _ hcur, by simp [hsz], ?_⟩, hide (HW.out.setCell hge _)⟩
        rw [Array.toList_setIfInBounds]
        exact take_set_str htk hx (by simp [hsz]; omega)
    · have : k = a.length := by omega
      subst this
      go_wp2
      go_ret
      obtain ⟨cur, hcur, hsz, htk⟩ := HR.out
      refine ⟨_, rfl, ⟨[B], str_M_mk (Nat.le_refl _) (by omega) hcur hsz (by rw [htk, List.take_length]), by simp, ?_⟩, HW.out⟩
      intro b hb
      rw [List.mem_singleton.1 hb, HBs.out]
      exact Nat.le_refl _

/-! ### marks -/
def smarks (k : Int) (n : Nat) : List ByteArray := (List.range n).map fun i : Nat => markT (k + (i : Int))
theorem smarks_len (k : Int) (n : Nat) : (smarks k n).length = n := by simp [smarks]
theorem smarks_succ (k : Int) (n : Nat) : smarks k (n + 1) = smarks k n ++ [markT (k + (n : Int))] := by simp [smarks, List.range_succ]
theorem smarks_get (k : Int) (n i : Nat) (h : i < n) : (smarks k n)[i]? = some (markT (k + (i : Int))) := by simp [smarks, h]
def RetMarkS (w : World) (v : Value) (F : List Nat) (k : Int) (n : Nat) (r : Ending) (w' : World) : Prop :=
  r = .returned (.int .i64 (k + n)) ∧ SliceM strD 9 w' v (smarks k n) F ∧ Chg F w w'
theorem take_smark {cur : List Value} {xs : List ByteArray} {k : Int} {i : Nat} (h : cur.take xs.length = (smarks k i ++ xs.drop i).map Value.string) (hi : i < xs.length) (hl : xs.length ≤ cur.length) :
    (cur.set i (.string (markT (k + (i : Int))))).take xs.length = (smarks k (i + 1) ++ xs.drop (i + 1)).map Value.string := by
  rw [List.take_set, h, smarks_succ, List.drop_eq_getElem_cons hi, List.map_append, List.map_cons, List.set_append]
  simp [smarks_len]
set_option maxHeartbeats 2000000 in
theorem markStringS_c (v : Value) (xs : List ByteArray) (F : List Nat) (k : Int) (w : World) (h : SliceM strD 9 w v xs F) (hn : F.Nodup) (h0 : 0 ≤ k) (h1 : k + xs.length ≤ 1000000000000) :
    Calls Try.prog 21 #[v, .int .i64 k] w (RetMarkS w v F k xs.length) := by
  rcases str_M h with ⟨rfl, rfl, rfl⟩ | ⟨B, cap, cur, rfl, hl, hm, hcur, hsz, htk, rfl⟩
  · go_enter Try.func21, Try.ntmps21
    go_wp2
    go_loopg [1, 5] 0 (fun gg s1 s5 wr => s1 = .int .i64 k ∧ s5 = .int .i64 0 ∧ w = wr)
    case atStart => exact ⟨rfl, rfl, rfl⟩
    case round =>
      obtain ⟨rfl, rfl, rfl⟩ := hrel
      go_wp2
      go_ret
      exact ⟨by simp, .inl ⟨rfl, by simp [smarks], rfl⟩, Chg.refl _ _⟩
  · have HS := hide h
    have H0 := hide (show ∃ cur, w.heap[B]? = some (.cells cur 9 (0, 0)) ∧ cur.size = cap ∧ cur.toList.take xs.length = (smarks k 0 ++ xs.drop 0).map (Value.string) from ⟨cur, hcur, hsz, by simpa [smarks] using htk⟩)
    clear h hcur hsz htk
    go_enter Try.func21, Try.ntmps21
    go_wp2
    go_loopg [1, 5] xs.length (fun gg s1 s5 wr => ∃ i : Nat, i ≤ xs.length ∧ xs.length - i ≤ gg ∧ s1 = .int .i64 (k + (i : Int)) ∧ s5 = .int .i64 i ∧
      Hid (∃ cur, wr.heap[B]? = some (.cells cur 9 (0, 0)) ∧ cur.size = cap ∧ cur.toList.take xs.length = (smarks k i ++ xs.drop i).map (Value.string)) ∧ Hid (Chg [B] w wr))
    case atStart => exact ⟨0, Nat.zero_le _, by omega, by simp, rfl, H0, Chg.refl _ _⟩
    case round =>
      obtain ⟨i, hi, hg, rfl, rfl, HR, HW⟩ := hrel
      clear H0
      by_cases hlt : i < xs.length
      · obtain ⟨cur, hcur, hsz, htk⟩ := HR.out
        have hlB := block_lt hcur
        obtain ⟨u0, hcB⟩ : ∃ u, wr.cell? ⟨B, i, none⟩ = some u := ⟨cur[i]'(by omega), by rw [cell_block hcur]; exact Array.getElem?_eq_getElem (by omega)⟩
        have hfB : wr.frozen? ⟨B, i, none⟩ = false := frozen_block hcur
        have HC := hide (And.intro hcur (And.intro hsz htk))
        clear HR hcur hsz htk
        go_wp2_with (
          go_at_call 63
          refine (markText_c (k + (i : Int)) _ (by omega) (by omega)).mono ?_
          rintro e w5 ⟨rfl, hb⟩
          have hcB := cell_below hb hcB
          have hcur5 := (hb.block _ hlB).trans HC.out.1
          have hfB : w5.frozen? ⟨B, i, none⟩ = false := frozen_block hcur5
          have hlB := block_lt hcur5
          have HC5 := hide hcur5
          have HW5 := hide (HW.out.trans (Chg.of_below hb [B]))
          clear hb hcur5)
        obtain ⟨-, hsz, htk⟩ := HC.out
        have hcur := HC5.out
        go_roundg (xs.length - (i + 1))
        case measure => omega
        case rel =>
          refine ⟨i + 1, by omega, by omega, by go_num, by go_num, hide ⟨_, setCell_block _ _ _ _ hcur, by simp [hsz], ?_⟩, hide (HW5.out.setCell (.inl (by simp)) _)⟩
          rw [Array.toList_setIfInBounds]
          exact take_smark htk hlt (by simp [hsz]; omega)
      · have : i = xs.length := by omega
        subst this
        go_wp2
        go_ret
        obtain ⟨cur, hcur, hsz, htk⟩ := HR.out
        refine ⟨rfl, ?_, HW.out⟩
        have hS := str_M_mk (w := wr) (e := 9) (xs := smarks k xs.length) (b := B) (cap := cap) (cur := cur) (by rw [smarks_len]; exact hl) hm hcur hsz (by rw [smarks_len, htk]; simp)
        rwa [smarks_len] at hS

/-- What is told behind marks of texts. -/
def heldS (k : Int) (xs : List ByteArray) : Int := if xs = smarks k xs.length then k + xs.length else -1
theorem heldS_neg {k : Int} {xs : List ByteArray} {i : Nat} {x : ByteArray} (hx : xs[i]? = some x) (hne : x ≠ markT (k + (i : Int))) : heldS k xs = -1 := by
  refine if_neg fun h => hne ?_
  have hi := (List.getElem?_eq_some_iff.1 hx).1
  rw [h, smarks_get _ _ _ hi] at hx
  simpa using hx.symm

set_option maxHeartbeats 2000000 in
theorem heldStringS_c (v : Value) (xs : List ByteArray) (k : Int) (w : World) (h : SliceK strD w v xs) (h0 : 0 ≤ k) (h1 : k + xs.length ≤ 1000000000000) :
    Calls Try.prog 39 #[v, .int .i64 k] w fun e w' => e = .returned (.int .i64 (heldS k xs)) ∧ Below w.heap.size w w' := by
  obtain ⟨A, c, rfl, hl, hm, hra⟩ := h
  have HA := hide hra
  clear hra
  go_enter Try.func39, Try.ntmps39
  go_wp2
  go_loopg [1, 5] xs.length (fun gg s1 s5 wr => ∃ i : Nat, i ≤ xs.length ∧ xs.length - i ≤ gg ∧ s1 = .int .i64 (k + (i : Int)) ∧ s5 = .int .i64 i ∧ Hid (xs.take i = smarks k i) ∧ Hid (Below w.heap.size w wr))
  case atStart => exact ⟨0, Nat.zero_le _, by omega, by simp, rfl, hide (by simp [smarks]), Below.refl _ _⟩
  case round =>
    obtain ⟨i, hi, hg, rfl, rfl, HT, HW⟩ := hrel
    by_cases hlt : i < xs.length
    · obtain ⟨x, hx⟩ : ∃ x, xs[i]? = some x := ⟨_, List.getElem?_eq_getElem hlt⟩
      rcases HA.out with rfl | ⟨p, o, rfl, hra⟩
      · simp at hlt
      obtain ⟨hp, hc⟩ := str_at hra HW.out hx
      have HX := hide hx
      clear hx hra HA
      by_cases hxy : x = markT (k + (i : Int))
      · subst hxy
        go_wp2_with fail
        (refine wp_region_calm (by kernel_rfl) (by kernel_rfl) ?_; (repeat (first | go_big_quiet_skip | (go_big_quiet_want; go_big_quiet_op; (first | go_big_quiet_on | (apply Exists.intro; refine ⟨fun ic => ?_, ?_⟩; (focus ((go_at_call 63; refine (markText_c (k + (i : Int)) _ (by omega) (by omega)).mono ?_; rintro e w5 ⟨rfl, hb⟩; exact ⟨rfl, Calm.next _ hb⟩); done)); go_big_quiet_on))))); refine wpQuiet_nil ?_; intro wq hwq; obtain ⟨iq, hwe⟩ := hwq; subst hwe)
        have HW5 := hide (below_step HW.out iq.below)
        go_wp2_with fail
        go_roundg (xs.length - (i + 1))
        case measure => omega
        case rel => exact ⟨i + 1, by omega, by omega, by go_num, by go_num, hide (by rw [List.take_add_one, HX.out, HT.out, smarks_succ]; rfl), HW5⟩
      · have hb0 : (x.toList == (markT (k + (i : Int))).toList) = false := beq_eq_false_iff_ne.2 fun e => hxy (bytes_eq.1 e)
        have HXY := hide hxy
        clear hxy
        go_wp2_with fail
        (refine wp_region_calm (by kernel_rfl) (by kernel_rfl) ?_; (repeat (first | go_big_quiet_skip | (go_big_quiet_want; go_big_quiet_op; (first | go_big_quiet_on | (apply Exists.intro; refine ⟨fun ic => ?_, ?_⟩; (focus ((go_at_call 63; refine (markText_c (k + (i : Int)) _ (by omega) (by omega)).mono ?_; rintro e w5 ⟨rfl, hb⟩; exact ⟨rfl, Calm.next _ hb⟩); done)); go_big_quiet_on))))); refine wpQuiet_nil ?_; intro wq hwq; obtain ⟨iq, hwe⟩ := hwq; subst hwe)
        have HW5 := hide (below_step HW.out iq.below)
        go_wp2_with fail
        go_ret
        exact ⟨by rw [heldS_neg HX.out HXY.out]; rfl, HW5.out⟩
    · have : i = xs.length := by omega
      subst this
      go_wp2
      go_ret
      exact ⟨by rw [show heldS k xs = k + xs.length from if_pos (by have := HT.out; rwa [List.take_length] at this)]; rfl, HW.out⟩
theorem heldS_marks (k : Int) (n : Nat) : heldS k (smarks k n) = k + n := by unfold heldS; rw [smarks_len, if_pos rfl]
end Go.Proofs.Yticjphaagmnahaa
