/- Where a token stands in a post: the program's at, and plain laws of rows of boxes. -/
import Derived.Test.YtdmhjfajicclaaaPostFind
import Derived.Test.YtdmhjfajicclaaaBsfBox
import Derived.Test.YtdmhjfajicclaaaPostChange
namespace Go.Proofs.Ytdmhjfajicclaaa
open Go Go.RowKit Go.BigFrame
set_option linter.unusedVariables false
set_option linter.unusedSimpArgs false

theorem boxes_adj {p : Post} (h : validPostB p = true) {j : Nat} {x y : Box} (hx : p.boxes[j]? = some x) (hy : p.boxes[j + 1]? = some y) : txLt x.token y.token = true := by
  simp only [validPostB, Bool.and_eq_true] at h
  have h2 := (adjB_iff _ _ _).1 h.2 (j + 1) y hy
  rw [if_neg (by omega), Nat.add_sub_cancel, hx] at h2
  simp only [boxF, Bool.and_eq_true] at h2
  exact h2.2
theorem rises_valid {p : Post} (h : validPostB p = true) : RisesT Box.token p.boxes := by
  intro s t x y hst hx hy
  obtain ⟨k, rfl⟩ : ∃ k, t = s + k + 1 := ⟨t - s - 1, by omega⟩
  induction k generalizing y with
  | zero => exact boxes_adj h hx hy
  | succ k ih =>
    have hl := (List.getElem?_eq_some_iff.1 hy).1
    obtain ⟨z, hz⟩ : ∃ z, p.boxes[s + k + 1]? = some z := ⟨_, List.getElem?_eq_getElem (by omega)⟩
    exact txLt_trans (ih z (by omega) hz) (boxes_adj h hz hy)
theorem tokIs_iff {t : ByteArray} {b : Box} : tokIs t b = true ↔ b.token = t := by
  unfold tokIs
  rw [beq_iff_eq]
  exact ⟨tx_eq, fun h => by rw [h]⟩
theorem tokIs_no {t : ByteArray} {b : Box} (h : b.token ≠ t) : tokIs t b = false := by
  rw [Bool.eq_false_iff]; exact fun h2 => h (tokIs_iff.1 h2)
/-- Where a text that is there stands. -/
theorem isLbT.found {xs : List Box} {t : ByteArray} {i : Nat} (hr : RisesT Box.token xs) (h : isLbT Box.token xs t i) (hh : hasT Box.token xs t = true) : ∃ x, xs[i]? = some x ∧ x.token = t := by
  by_cases hx : ∃ x, xs[i]? = some x ∧ x.token = t
  · exact hx
  · have := h.none hr (fun x hx2 e => hx ⟨x, hx2, e⟩)
    rw [hh] at this; cases this
/-- A place of a token is its only one. -/
theorem only_one {xs : List Box} {t : ByteArray} {i : Nat} {x : Box} (hr : RisesT Box.token xs) (hx : xs[i]? = some x) (he : x.token = t) : ∀ (s : Nat) (y : Box), xs[s]? = some y → y.token = t → s = i := by
  intro s y hy e
  rcases Nat.lt_trichotomy s i with h | h | h
  · have := hr s i y x h hy hx
    rw [e, he, txLt_irrefl] at this; cases this
  · exact h
  · have := hr i s x y h hx hy
    rw [e, he, txLt_irrefl] at this; cases this
theorem idx_one {xs : List Box} {t : ByteArray} {i : Nat} {x : Box} (hr : RisesT Box.token xs) (hx : xs[i]? = some x) (he : x.token = t) : idxP (tokIs t) xs = i :=
  idxP_hit (fun j y hj hy => tokIs_no fun e => by have := only_one hr hx he j y hy e; omega) hx (tokIs_iff.2 he)
theorem idx_has {xs : List Box} {t : ByteArray} : hasT Box.token xs t = decide (0 ≤ idxP (tokIs t) xs) := by
  rcases idxP_cases (tokIs t) xs with h | ⟨k, x, h1, h2, h3, h4⟩
  · rw [h]
    have : hasT Box.token xs t = false := hasT_no fun s y hy e => by
      unfold idxP at h
      rcases hf : xs.findIdx? (tokIs t) with _ | j
      · rw [List.findIdx?_eq_none_iff] at hf
        have := hf y (List.mem_of_getElem? hy)
        rw [tokIs_iff.2 e] at this; cases this
      · rw [hf] at h; simp at h <;> omega
    rw [this]; rfl
  · rw [h1, hasT_yes h3 (tokIs_iff.1 h4)]; simp
theorem filt_one {xs : List Box} {t : ByteArray} {i : Nat} {x : Box} (hr : RisesT Box.token xs) (hx : xs[i]? = some x) (he : x.token = t) : xs.filter (fun b => !tokIs t b) = xs.take i ++ xs.drop (i + 1) := by
  obtain ⟨hl, hxe⟩ := List.getElem?_eq_some_iff.1 hx
  conv => lhs; rw [← List.take_append_drop i xs, List.drop_eq_getElem_cons hl]
  rw [List.filter_append, List.filter_cons]
  have h1 : (!tokIs t xs[i]) = false := by rw [hxe, tokIs_iff.2 he]; rfl
  rw [h1]
  congr 1
  · rw [List.filter_eq_self]
    intro y hy
    obtain ⟨j, hj⟩ := List.getElem?_of_mem hy
    have hjl := (List.getElem?_eq_some_iff.1 hj).1
    rw [List.length_take] at hjl
    rw [List.getElem?_take, if_pos (by omega)] at hj
    rw [tokIs_no (fun e => by have := only_one hr hx he j y hj e; omega)]; rfl
  · simp only [Bool.false_eq_true, if_false]
    rw [List.filter_eq_self]
    intro y hy
    obtain ⟨j, hj⟩ := List.getElem?_of_mem hy
    rw [List.getElem?_drop] at hj
    rw [tokIs_no (fun e => by have := only_one hr hx he _ y hj e; omega)]; rfl
theorem postAt1_c (m : Box) (u : Value) (t : ByteArray) (w : World) :
    Calls Try.prog 59 #[.agg #[.string m.token, .int .i64 m.member, .int .i64 m.missed, u], .string t] w fun e w' => e = .returned (.int .i64 (cmpT m.token t)) ∧ Below w.heap.size w w' := by
  go_enter Try.func59, Try.ntmps59
  go_wp2_with (go_at_call 60; refine (stringsCompare_c _ _ _).mono ?_; rintro e w' ⟨rfl, rfl⟩)
  go_ret
  exact ⟨rfl, (Below.refl _ _).alloc (Nat.le_refl _) _⟩
set_option maxHeartbeats 4000000 in
theorem postAt_c (p : Post) (b o : Nat) (t : ByteArray) (w : World) (hp : RowAt postD w b o [p]) (hv : validPostB p = true) :
    Calls Try.prog 32 #[.pointer (some ⟨b, o, none⟩), .string t] w fun e w' => (∃ i : Nat, isLbT Box.token p.boxes t i ∧ e = .returned (.tuple #[.int .i64 i, .bool (hasT Box.token p.boxes t)])) ∧ Below w.heap.size w w' := by
  obtain ⟨v1, h1, hbz, hb0, hb1⟩ := post_at hp (Below.refl _ _) (j := 0) rfl
  simp only [Nat.zero_mul, Nat.add_zero] at hb0 hb1
  obtain ⟨A, c, rfl⟩ := h1.shape
  have H1 := hide h1
  have HR := hide (rises_valid hv)
  have hl := (fewP_of hv).1
  have eg := enters_of Try.func59 (by kernel_rfl) rfl
  clear h1 hp hv
  go_enter Try.func32, Try.ntmps32
  go_wp2_with (
    go_at_call 58
    refine (bsfBox_c _ _ p.boxes t _ H1.out HR.out (by omega) eg (fun m u W _ _ => postAt1_c m u t W)).mono ?_
    rintro e w1 ⟨⟨i, hlb, rfl⟩, hb⟩
    have HLB := hide hlb
    have HB1 := hide hb
    clear hlb hb)
  go_ret2
  exact ⟨⟨i, HLB.out, rfl⟩, HB1.out⟩
end Go.Proofs.Ytdmhjfajicclaaa
