/- The numbers of a word in an index: the program and the reference. -/
import Derived.Test.YticjphaagmnahaaValidIx
import Derived.Test.YticjphaagmnahaaBsfEntry
import Derived.Test.YticjphaagmnahaaRGround
namespace Go.Proofs.Yticjphaagmnahaa
open Go Go.RowKit Go.BigFrame
set_option linter.unusedVariables false
set_option linter.unusedSimpArgs false

theorem entries_adj {p : Index} (h : validIxB p = true) {j : Nat} {x y : Entry} (hx : p.entries[j]? = some x) (hy : p.entries[j + 1]? = some y) : txLt x.word y.word = true := by
  have h2 := (adjB_iff _ _ _).1 h (j + 1) y hy
  rw [if_neg (by omega), Nat.add_sub_cancel, hx] at h2
  simp only [entF, Bool.and_eq_true] at h2
  exact h2.2
theorem rises_ix {p : Index} (h : validIxB p = true) : RisesT Entry.word p.entries := by
  intro s t x y hst hx hy
  obtain ⟨k, rfl⟩ : ∃ k, t = s + k + 1 := ⟨t - s - 1, by omega⟩
  induction k generalizing y with
  | zero => exact entries_adj h hx hy
  | succ k ih =>
    have hl := (List.getElem?_eq_some_iff.1 hy).1
    obtain ⟨z, hz⟩ : ∃ z, p.entries[s + k + 1]? = some z := ⟨_, List.getElem?_eq_getElem (by omega)⟩
    exact txLt_trans (ih z (by omega) hz) (entries_adj h hz hy)
theorem entry_ok {p : Index} (h : validIxB p = true) {x : Entry} (hx : x ∈ p.entries) : entOkB x = true := by
  obtain ⟨j, hj⟩ := List.getElem?_of_mem hx
  have h2 := (adjB_iff _ _ _).1 h j x hj
  simp only [entF, Bool.and_eq_true] at h2
  exact h2.1
def entIs (t : ByteArray) (e : Entry) : Bool := e.word.toList == t.toList
theorem entIs_iff {t : ByteArray} {b : Entry} : entIs t b = true ↔ b.word = t := by
  unfold entIs
  rw [beq_iff_eq]
  exact ⟨tx_eq, fun h => by rw [h]⟩
theorem entIs_no {t : ByteArray} {b : Entry} (h : b.word ≠ t) : entIs t b = false := by
  rw [Bool.eq_false_iff]; exact fun h2 => h (entIs_iff.1 h2)
/-- A row of numbers and a Bool come back. -/
def RetNums (w : World) (xs : List Int) (ok : Bool) (r : Ending) (w' : World) : Prop :=
  ∃ v, r = .returned (.tuple #[v, .bool ok]) ∧ Made intD 2 w w' v xs ∧ Below w.heap.size w w'
/-- The numbers of a word. -/
def numsAt (es : List Entry) (t : ByteArray) : List Int := match es.find? (entIs t) with | some e => e.numbers | none => []
theorem numsAt_hit {es : List Entry} {t : ByteArray} {i : Nat} {x : Entry} (h : ∀ j y, j < i → es[j]? = some y → entIs t y = false) (hx : es[i]? = some x) (he : entIs t x = true) : numsAt es t = x.numbers := by
  have h2 : es.find? (entIs t) = some x := by
    rw [List.find?_eq_some_iff_getElem]
    obtain ⟨hl, rfl⟩ := List.getElem?_eq_some_iff.1 hx
    exact ⟨he, i, hl, rfl, fun j hj => by rw [h j _ hj (List.getElem?_eq_getElem (by omega))]; rfl⟩
  unfold numsAt; rw [h2]
theorem numsAt_miss {es : List Entry} {t : ByteArray} (h : ∀ j y, j < es.length → es[j]? = some y → entIs t y = false) : numsAt es t = [] := by
  have h2 : es.find? (entIs t) = none := by
    rw [List.find?_eq_none]
    intro x hx
    obtain ⟨j, hj⟩ := List.getElem?_of_mem hx
    rw [h j x (List.getElem?_eq_some_iff.1 hj).1 hj]; simp
  unfold numsAt; rw [h2]
theorem isLbT.foundE {xs : List Entry} {t : ByteArray} {i : Nat} (hr : RisesT Entry.word xs) (h : isLbT Entry.word xs t i) (hh : hasT Entry.word xs t = true) : ∃ x, xs[i]? = some x ∧ x.word = t := by
  by_cases hx : ∃ x, xs[i]? = some x ∧ x.word = t
  · exact hx
  · have := h.none hr (fun x hx2 e => hx ⟨x, hx2, e⟩)
    rw [hh] at this; cases this
theorem numsAt_lb {xs : List Entry} {t : ByteArray} {i : Nat} {x : Entry} (h : isLbT Entry.word xs t i) (hx : xs[i]? = some x) (he : x.word = t) : numsAt xs t = x.numbers :=
  numsAt_hit (fun j y hj hy => entIs_no fun e => by have h2 := h.2.1 j y hj hy; rw [e, txLt_irrefl] at h2; cases h2) hx (entIs_iff.2 he)
theorem numsAt_no {xs : List Entry} {t : ByteArray} (hh : hasT Entry.word xs t = false) : numsAt xs t = [] :=
  numsAt_miss fun j y _ hy => entIs_no fun e => by rw [hasT_yes hy e] at hh; cases hh
theorem numsAt_len {p : Index} (h : validIxB p = true) (t : ByteArray) : (numsAt p.entries t).length ≤ 40 := by
  unfold numsAt
  split
  · rename_i e he
    have h2 := entry_ok h (List.mem_of_find?_eq_some he)
    simp only [entOkB, Bool.and_eq_true, decide_eq_true_eq] at h2
    omega
  · simp
theorem ixAt1_c (m : Entry) (u : Value) (t : ByteArray) (w : World) :
    Calls Try.prog 148 #[.agg #[.string m.word, u], .string t] w fun e w' => e = .returned (.int .i64 (cmpT m.word t)) ∧ Below w.heap.size w w' := by
  go_enter Try.func148, Try.ntmps148
  go_wp2_with (go_at_call 149; refine (stringsCompare_c _ _ _).mono ?_; rintro e w' ⟨rfl, rfl⟩)
  go_ret
  exact ⟨rfl, (Below.refl _ _).alloc (Nat.le_refl _) _⟩
set_option maxHeartbeats 4000000 in
set_option maxRecDepth 100000 in
theorem ixAt_c (p : Index) (b o : Nat) (t : ByteArray) (w : World) (hp : RowAt indexD w b o [p]) (hr : RisesT Entry.word p.entries) (hl : p.entries.length ≤ 1048576) :
    Calls Try.prog 117 #[.pointer (some ⟨b, o, none⟩), .string t] w fun e w' => (∃ i : Nat, isLbT Entry.word p.entries t i ∧ e = .returned (.tuple #[.int .i64 i, .bool (hasT Entry.word p.entries t)])) ∧ Below w.heap.size w w' := by
  obtain ⟨v1, h1, hbz, hb0⟩ := index_at hp (Below.refl _ _) (j := 0) rfl
  simp only [Nat.add_zero] at hb0
  obtain ⟨A, c, rfl⟩ := h1.shape
  have H1 := hide h1
  have HR := hide hr
  have eg := enters_of Try.func148 (by kernel_rfl) rfl
  clear h1 hp hr
  go_enter Try.func117, Try.ntmps117
  go_wp2_with (
    go_at_call 147
    refine (bsfEntry_c _ _ p.entries t _ H1.out HR.out (by omega) eg (fun m u W _ _ => ixAt1_c m u t W)).mono ?_
    rintro e w1 ⟨⟨i, hlb, rfl⟩, hb⟩
    have HLB := hide hlb
    have HB1 := hide hb
    clear hlb hb)
  go_ret2
  exact ⟨⟨i, HLB.out, rfl⟩, HB1.out⟩
theorem ixRow {w : World} {p : Index} {b o : Nat} {v1 : Value} (h1 : SliceK entryD w v1 p.entries) (hb0 : w.cell? ⟨b, o, none⟩ = some v1) : RowAt indexD w b o [p] := by
  intro j y hj
  cases j with
  | zero =>
    simp at hj; subst hj
    refine ⟨[v1], index_K_mk h1, fun i u hi => ?_⟩
    cases i with
    | zero => simp at hi; subst hi; simpa using hb0
    | succ i => simp at hi
  | succ j => simp at hj
set_option maxHeartbeats 4000000 in
set_option maxRecDepth 100000 in
theorem ixNumbers_c (p : Index) (b o : Nat) (t : ByteArray) (w0 w : World) (v1 : Value) (h1 : SliceK entryD w0 v1 p.entries) (hB : Below w0.heap.size w0 w) (hb0 : w.cell? ⟨b, o, none⟩ = some v1) (hr : RisesT Entry.word p.entries) (hl : p.entries.length ≤ 1048576) :
    Calls Try.prog 57 #[.pointer (some ⟨b, o, none⟩), .string t] w fun e w' => (∃ A n c, e = .returned (.slice A n c) ∧ SliceK intD w0 (.slice A n c) (numsAt p.entries t)) ∧ Below w.heap.size w w' := by
  have hp := ixRow (h1.below hB) hb0
  have hbz := World.block_lt_of_cell? w _ hb0
  simp only [] at hbz
  obtain ⟨A, c, rfl, hlc, hm, hra⟩ := h1
  have HP := hide hp
  have HW := hide hB
  clear hB
  have HR := hide hr
  have HA := hide hra
  clear hp hr hra
  by_cases hi : hasT Entry.word p.entries t = true
  · have HI := hide hi
    rcases HA.out with hnil | ⟨q, o2, rfl, hra⟩
    · rw [hnil] at hi; simp [hasT] at hi
    have HRA := hide hra
    clear hi hra HA
    go_enter Try.func57, Try.ntmps57
    go_wp2_with (
      go_at_call 117
      refine (ixAt_c p b o t _ HP.out HR.out hl).mono ?_
      rintro e w1 ⟨⟨i, hlb, rfl⟩, hb⟩
      rw [HI.out]
      have HB1 := hide hb
      have hb1 := cell_below hb hb0
      have hbz1 := Nat.lt_of_lt_of_le hbz hb.size
      obtain ⟨x, hx, hxt⟩ := hlb.foundE HR.out HI.out
      have HNV := hide (numsAt_lb hlb hx hxt)
      have hil := (List.getElem?_eq_some_iff.1 hx).1
      have hil2 : (i : Int) < (p.entries.length : Int) := by omega
      obtain ⟨v9, h9, hq0, hd0, hd1⟩ := entry_at HRA.out (Below.refl _ _) hx
      obtain ⟨A9, c9, rfl⟩ := h9.shape
      have hd1 := cell_below hb (cell_below HW.out hd1)
      have hq0 := Nat.lt_of_lt_of_le hq0 (Nat.le_trans HW.out.size hb.size)
      have H9 := hide h9
      clear hlb hb hx h9 hd0)
    go_ret
    exact ⟨⟨A9, _, c9, rfl, by rw [HNV.out]; exact H9.out⟩, HB1.out⟩
  · have HI := hide (show hasT Entry.word p.entries t = false by simpa using hi)
    clear hi
    go_enter Try.func57, Try.ntmps57
    go_wp2_with (
      go_at_call 117
      refine (ixAt_c p b o t _ HP.out HR.out hl).mono ?_
      rintro e w1 ⟨⟨i, hlb, rfl⟩, hb⟩
      rw [HI.out]
      have HB1 := hide hb
      clear hlb hb)
    go_ret
    exact ⟨⟨none, 0, 0, rfl, by rw [numsAt_no HI.out]; exact ⟨none, 0, rfl, Nat.le_refl _, by omega, .inl rfl⟩⟩, HB1.out⟩
set_option maxHeartbeats 4000000 in
set_option maxRecDepth 100000 in
theorem l08Numbers_c (p : Index) (b o : Nat) (t : ByteArray) (w : World) (hp : RowAt indexD w b o [p]) (hf : ∀ y ∈ p.entries, y.numbers.length ≤ 1048576) :
    Calls Try.prog 51 #[.pointer (some ⟨b, o, none⟩), .string t] w (RetMade intD 2 w (numsAt p.entries t)) := by
  obtain ⟨v1, h1, hbz, hb0⟩ := index_at hp (Below.refl _ _) (j := 0) rfl
  simp only [Nat.add_zero] at hb0
  obtain ⟨A, c, rfl, hlc, hm, hra⟩ := h1
  have HA := hide hra
  have HF := hide hf
  clear hp hra hf
  go_enter Try.func51, Try.ntmps51
  go_wp2_with fail
  go_loopg [5] p.entries.length (fun gg s5 wr => ∃ k : Nat, k ≤ p.entries.length ∧ p.entries.length - k ≤ gg ∧ s5 = .int .i64 k ∧ Hid (∀ j y, j < k → p.entries[j]? = some y → entIs t y = false) ∧ wr = w)
  case atStart => exact ⟨0, Nat.zero_le _, by omega, rfl, hide (by intro j y hj; omega), rfl⟩
  case round =>
    obtain ⟨k, hk, hg, rfl, HT, rfl⟩ := hrel
    by_cases hlt : k < p.entries.length
    · obtain ⟨m, hx⟩ : ∃ m, p.entries[k]? = some m := ⟨_, List.getElem?_eq_getElem hlt⟩
      rcases HA.out with hnil | ⟨q, o2, rfl, hra⟩
      · rw [hnil] at hlt; simp at hlt
      obtain ⟨v3, h3, hq, hc0, hc1⟩ := entry_at hra (Below.refl _ _) hx
      have H3 := hide h3
      have HX := hide hx
      have hlt2 : (k : Int) < (p.entries.length : Int) := by omega
      clear hx hra h3
      by_cases hpm : (m.word.toList == t.toList) = true
      · have HPM := hide (show entIs t m = true from hpm)
        go_wp2_with (go_at_call 110; refine (l00Own_c _ m.numbers _ H3.out (HF.out m (List.mem_of_getElem? HX.out))).mono ?_; rintro e w1 ⟨v, rfl, hmd, hb⟩; have HMD := hide (And.intro hmd hb); clear hmd hb)
        go_ret
        exact ⟨v, rfl, by rw [numsAt_hit HT.out HX.out HPM.out]; exact HMD.out.1, HMD.out.2⟩
      · have hpm : (m.word.toList == t.toList) = false := by simpa using hpm
        have HPM := hide (show entIs t m = false from hpm)
        go_wp2_with fail
        go_roundg (p.entries.length - (k + 1))
        case measure => omega
        case rel => exact ⟨k + 1, by omega, by omega, by go_num, hide (fun j y hj hy => by
          by_cases e : j = k
          · subst e; rw [HX.out] at hy; cases hy; exact HPM.out
          · exact HT.out j y (by omega) hy), rfl⟩
    · have : k = p.entries.length := by omega
      subst this
      have hr := hide (numsAt_miss HT.out)
      clear HA
      go_wp2_with fail
      go_ret
      refine ⟨_, rfl, ?_, (Below.refl _ _).alloc (Nat.le_refl _) _⟩
      rw [hr.out]
      exact ⟨_, emptyM _, by simp, by simp⟩
end Go.Proofs.Yticjphaagmnahaa
