/- Valid indexes: the program's test, the reference's test. -/
import Derived.Test.YticjphaagmnahaaQuery
import Derived.Test.YticjphaagmnahaaRGround
import Derived.Test.YticjphaagmnahaaRTypes
import Derived.Laws.Cover1
namespace Go.Proofs.Yticjphaagmnahaa
open Go Go.RowKit Go.BigFrame
attribute [local go_sem] Calm.cell Calm.frozen
set_option linter.unusedVariables false
set_option linter.unusedSimpArgs false

def wLt (a b : ByteArray) : Bool := Op.bytesLess a.toList b.toList
def numsB (l : List Int) : Bool := risesB (fun n => inB n 1 1000000000) l
def entOkB (e : Entry) : Bool := wordB e.word && decide (1 ≤ (e.numbers.length : Int)) && decide ((e.numbers.length : Int) ≤ 40) && numsB e.numbers
def entF (e : Entry) (p : Option Entry) : Bool := entOkB e && match p with | none => true | some q => wLt q.word e.word
/-- A valid index. -/
def validIxB (ix : Index) : Bool := adjB entF none ix.entries
theorem entF_no {b : Entry} {p : Option Entry} (h : entOkB b = false) : entF b p = false := by simp [entF, h]
theorem entF_none {b : Entry} (h : entOkB b = true) : entF b none = true := by simp [entF, h]
theorem entF_some {b q : Entry} (h : entOkB b = true) (h2 : wLt q.word b.word = true) : entF b (some q) = true := by simp [entF, h, h2]
theorem entF_ord {b q : Entry} (h2 : wLt q.word b.word = false) : entF b (some q) = false := by simp [entF, h2]
theorem entOk_no {m : Entry} (h : ¬ (wordB m.word = true ∧ 1 ≤ (m.numbers.length : Int) ∧ (m.numbers.length : Int) ≤ 40 ∧ numsB m.numbers = true)) : entOkB m = false := by
  rw [Bool.eq_false_iff]
  intro h2
  simp only [entOkB, Bool.and_eq_true, decide_eq_true_eq] at h2
  exact h ⟨h2.1.1.1, h2.1.1.2, h2.1.2, h2.2⟩
theorem entOk_yes {m : Entry} (h1 : wordB m.word = true) (h2 : 1 ≤ (m.numbers.length : Int)) (h3 : (m.numbers.length : Int) ≤ 40) (h4 : numsB m.numbers = true) : entOkB m = true := by
  simp [entOkB, h1, h2, h3, h4]
set_option maxHeartbeats 4000000 in
set_option maxRecDepth 100000 in
theorem validIndex_c (ix : Index) (v1 : Value) (w : World) (h1 : SliceK entryD w v1 ix.entries) (ht : okIndex ix) :
    Calls Try.prog 54 #[.agg #[v1]] w fun e w' => e = .returned (.bool (validIxB ix)) ∧ Below w.heap.size w w' := by
  obtain ⟨A, c, rfl, hl, hm, hra⟩ := h1
  obtain ⟨V, hV⟩ : ∃ V, V = w.alloc (.cells #[.slice A ix.entries.length c] 33) := ⟨_, rfl⟩
  have HV := hide (show Below w.heap.size w V by subst hV; exact (Below.refl _ _).alloc (Nat.le_refl _) _)
  have HB0 := hide (And.intro (show V.cell? ⟨w.heap.size, 0, none⟩ = some (.slice A ix.entries.length c) by subst hV; simp) (show w.heap.size < V.heap.size by subst hV; simp))
  have HA := hide (show ix.entries = [] ∨ ∃ b o, A = some ⟨b, o, none⟩ ∧ RowAt entryD V b o ix.entries from hra.imp id fun ⟨b, o, h1, h2⟩ => ⟨b, o, h1, h2.below HV.out⟩)
  have HTX := hide ht
  have eg := enters_of Try.func114 (by kernel_rfl) rfl
  clear hra ht
  go_enter Try.func54, Try.ntmps54
  go_wp2_with fail
  rw [← hV]
  clear hV
  go_loopg [8] ix.entries.length (fun gg s8 wr => ∃ k : Nat, k ≤ ix.entries.length ∧ ix.entries.length - k ≤ gg ∧ s8 = .int .i64 k ∧ Hid (∀ j y, j < k → ix.entries[j]? = some y → entF y (prevAt ix.entries j) = true) ∧ Hid (Below V.heap.size V wr))
  case atStart => exact ⟨0, Nat.zero_le _, by omega, rfl, hide (by intro j y hj; omega), Below.refl _ _⟩
  case round =>
    obtain ⟨k, hk, hg, rfl, HT, HB⟩ := hrel
    by_cases hlt : k < ix.entries.length
    · obtain ⟨m, hx⟩ : ∃ m, ix.entries[k]? = some m := ⟨_, List.getElem?_eq_getElem hlt⟩
      rcases HA.out with hnil | ⟨q, o2, rfl, hra⟩
      · rw [hnil] at hlt; simp at hlt
      obtain ⟨v3, h3, hq, hc0, hc1⟩ := entry_at hra HB.out hx
      obtain ⟨A3, c3, rfl⟩ := h3.shape
      have H3' := hide h3
      have HSZ := hide (HTX.out m (List.mem_of_getElem? hx))
      have HX := hide hx
      have HRA' := hide (hra.below HB.out)
      have hlt2 : (k : Int) < (ix.entries.length : Int) := by omega
      clear hx hra h3 HA
      go_wp2_with fail
      obtain ⟨Wb, hWb⟩ : ∃ V, V = wr.alloc (.cells #[.string m.word, .slice A3 m.numbers.length c3] 106) := ⟨_, rfl⟩
      have hbw : Below wr.heap.size wr Wb := by rw [hWb]; exact (Below.refl _ _).alloc (Nat.le_refl _) _
      have HN := hide (below_step HB.out hbw)
      have e0 : Wb.cell? ⟨wr.heap.size, 0, none⟩ = some (.string m.word) := by rw [hWb]; simp
      have e1 : Wb.cell? ⟨wr.heap.size, 1, none⟩ = some (.slice A3 m.numbers.length c3) := by rw [hWb]; simp
      have ez : wr.heap.size < Wb.heap.size := by rw [hWb]; simp
      have i0 := cell_below HN.out HB0.out.1
      have iz := Nat.lt_of_lt_of_le HB0.out.2 HN.out.size
      have H3 := hide (H3'.out.below hbw)
      have HRA := hide (HRA'.out.below hbw)
      rw [← hWb]
      clear hWb hbw hc0 hc1 hq H3' HRA' HB
      have HB := HN
      clear HN
      by_cases hq0 : wordB m.word = true
      · have HQ1 := hide hq0
        clear hq0
        by_cases hq1 : 1 ≤ (m.numbers.length : Int)
        · have Q2 := hide hq1
          have z2 : ¬ (m.numbers.length : Int) < 1 := by omega
          clear hq1
          by_cases hq2 : (m.numbers.length : Int) ≤ 40
          · have Q3 := hide hq2
            have z3 : ¬ (40 : Int) < (m.numbers.length : Int) := by omega
            clear hq2
            by_cases hq3 : numsB m.numbers = true
            · have HQ4 := hide hq3
              clear hq3
              have HOK := hide (entOk_yes HQ1.out Q2.out Q3.out HQ4.out)
              by_cases hk0 : 0 < k
              · obtain ⟨pr, hy⟩ : ∃ pr, ix.entries[k - 1]? = some pr := ⟨_, List.getElem?_eq_getElem (by omega)⟩
                have HV2 := hide (prevAt_succ hk0 hy)
                have HY := hide hy
                have hk1 : decide (0 < k) = true := by simp; omega
                have hk3 : (1 : Int) ≤ (k : Int) := by omega
                have hk5 : IntKind.i64.wrap ((k : Int) - 1) = (k : Int) - 1 := IntWalk.i64_in _ (by omega)
                have hk6 : (0 : Int) ≤ (k : Int) - 1 := by omega
                have hk7 : ((k : Int) - 1).toNat = k - 1 := by omega
                clear hy
                by_cases hlt3 : wLt pr.word m.word = true
                · have hn2 : Op.bytesLess pr.word.toList m.word.toList = true := hlt3
                  have HL := hide hlt3
                  clear hlt3
                  obtain ⟨_, _, hqd, hd0, _⟩ := entry_at HRA.out (Below.refl _ _) HY.out
                  (refine wp_region_calm (by kernel_rfl) (by kernel_rfl) ?_; (repeat (first | go_big_quiet_skip | (go_big_quiet_want; go_big_quiet_op; (first | go_big_quiet_on | (apply Exists.intro; refine ⟨fun ic => ?_, ?_⟩; (focus (first | (go_at_call 112; refine (wordOk_c m.word _ HSZ.out).mono ?_; rintro e w2 ⟨rfl, hb⟩; rw [HQ1.out]; exact ⟨rfl, Calm.next _ hb⟩) | (go_at_call 113; refine (rising_c _ (fun n => inB n 1 1000000000) _ m.numbers _ (H3.out.below ic.below) eg (fun n W => isNumber_c n W)).mono ?_; rintro e w2 ⟨rfl, hb⟩; rw [show risesB (fun n => inB n 1 1000000000) m.numbers = _ from HQ4.out]; exact ⟨rfl, Calm.next _ hb⟩); done)); go_big_quiet_on))))); refine wpQuiet_nil ?_; intro wq hwq; obtain ⟨iq, hwe⟩ := hwq; subst hwe)
                  have HB3 := hide (below_step HB.out iq.below)
                  go_wp2_with fail
                  (go_roundg (ix.entries.length - (k + 1)); (case measure => omega); (case rel => exact ⟨k + 1, by omega, by omega, by go_num, hide (adj_step HT.out HX.out (by rw [HV2.out]; exact entF_some HOK.out HL.out)), HB3⟩))
                · have HL := hide (show wLt pr.word m.word = false by simpa using hlt3)
                  have hn2 : Op.bytesLess pr.word.toList m.word.toList = false := HL.out
                  clear hlt3
                  obtain ⟨_, _, hqd, hd0, _⟩ := entry_at HRA.out (Below.refl _ _) HY.out
                  (refine wp_region_calm (by kernel_rfl) (by kernel_rfl) ?_; (repeat (first | go_big_quiet_skip | (go_big_quiet_want; go_big_quiet_op; (first | go_big_quiet_on | (apply Exists.intro; refine ⟨fun ic => ?_, ?_⟩; (focus (first | (go_at_call 112; refine (wordOk_c m.word _ HSZ.out).mono ?_; rintro e w2 ⟨rfl, hb⟩; rw [HQ1.out]; exact ⟨rfl, Calm.next _ hb⟩) | (go_at_call 113; refine (rising_c _ (fun n => inB n 1 1000000000) _ m.numbers _ (H3.out.below ic.below) eg (fun n W => isNumber_c n W)).mono ?_; rintro e w2 ⟨rfl, hb⟩; rw [show risesB (fun n => inB n 1 1000000000) m.numbers = _ from HQ4.out]; exact ⟨rfl, Calm.next _ hb⟩); done)); go_big_quiet_on))))); refine wpQuiet_nil ?_; intro wq hwq; obtain ⟨iq, hwe⟩ := hwq; subst hwe)
                  have HB3 := hide (below_step HB.out iq.below)
                  go_wp2_with fail
                  (go_ret; refine ⟨?_, below_step HV.out HB3.out⟩; rw [show validIxB ix = false from adj_fail (f := entF) HX.out (by rw [HV2.out]; exact entF_ord HL.out)]; rfl)
              · have hk1 : decide (0 < k) = false := by simp; omega
                have HV2 := hide (show prevAt ix.entries k = none by unfold prevAt; rw [if_pos (by omega)])
                clear hk0
                (refine wp_region_calm (by kernel_rfl) (by kernel_rfl) ?_; (repeat (first | go_big_quiet_skip | (go_big_quiet_want; go_big_quiet_op; (first | go_big_quiet_on | (apply Exists.intro; refine ⟨fun ic => ?_, ?_⟩; (focus (first | (go_at_call 112; refine (wordOk_c m.word _ HSZ.out).mono ?_; rintro e w2 ⟨rfl, hb⟩; rw [HQ1.out]; exact ⟨rfl, Calm.next _ hb⟩) | (go_at_call 113; refine (rising_c _ (fun n => inB n 1 1000000000) _ m.numbers _ (H3.out.below ic.below) eg (fun n W => isNumber_c n W)).mono ?_; rintro e w2 ⟨rfl, hb⟩; rw [show risesB (fun n => inB n 1 1000000000) m.numbers = _ from HQ4.out]; exact ⟨rfl, Calm.next _ hb⟩); done)); go_big_quiet_on))))); refine wpQuiet_nil ?_; intro wq hwq; obtain ⟨iq, hwe⟩ := hwq; subst hwe)
                have HB3 := hide (below_step HB.out iq.below)
                go_wp2_with fail
                (go_roundg (ix.entries.length - (k + 1)); (case measure => omega); (case rel => exact ⟨k + 1, by omega, by omega, by go_num, hide (adj_step HT.out HX.out (by rw [HV2.out]; exact entF_none HOK.out)), HB3⟩))
            · have HNO := hide (entOk_no (m := m) (fun h => hq3 h.2.2.2))
              have HQ4 := hide (show numsB m.numbers = false by simpa using hq3)
              clear hq3
              (refine wp_region_calm (by kernel_rfl) (by kernel_rfl) ?_; (repeat (first | go_big_quiet_skip | (go_big_quiet_want; go_big_quiet_op; (first | go_big_quiet_on | (apply Exists.intro; refine ⟨fun ic => ?_, ?_⟩; (focus (first | (go_at_call 112; refine (wordOk_c m.word _ HSZ.out).mono ?_; rintro e w2 ⟨rfl, hb⟩; rw [HQ1.out]; exact ⟨rfl, Calm.next _ hb⟩) | (go_at_call 113; refine (rising_c _ (fun n => inB n 1 1000000000) _ m.numbers _ (H3.out.below ic.below) eg (fun n W => isNumber_c n W)).mono ?_; rintro e w2 ⟨rfl, hb⟩; rw [show risesB (fun n => inB n 1 1000000000) m.numbers = _ from HQ4.out]; exact ⟨rfl, Calm.next _ hb⟩); done)); go_big_quiet_on))))); refine wpQuiet_nil ?_; intro wq hwq; obtain ⟨iq, hwe⟩ := hwq; subst hwe)
              have HB3 := hide (below_step HB.out iq.below)
              go_wp2_with fail
              (go_ret; refine ⟨?_, below_step HV.out HB3.out⟩; rw [show validIxB ix = false from adj_fail (f := entF) HX.out (entF_no HNO.out)]; rfl)
          · have HNO := hide (entOk_no (m := m) (fun h => hq2 h.2.2.1))
            have z3 : (40 : Int) < (m.numbers.length : Int) := by omega
            clear hq2
            (refine wp_region_calm (by kernel_rfl) (by kernel_rfl) ?_; (repeat (first | go_big_quiet_skip | (go_big_quiet_want; go_big_quiet_op; (first | go_big_quiet_on | (apply Exists.intro; refine ⟨fun ic => ?_, ?_⟩; (focus (first | (go_at_call 112; refine (wordOk_c m.word _ HSZ.out).mono ?_; rintro e w2 ⟨rfl, hb⟩; rw [HQ1.out]; exact ⟨rfl, Calm.next _ hb⟩) | (go_at_call 113; refine (rising_c _ (fun n => inB n 1 1000000000) _ m.numbers _ (H3.out.below ic.below) eg (fun n W => isNumber_c n W)).mono ?_; rintro e w2 ⟨rfl, hb⟩; rw [show risesB (fun n => inB n 1 1000000000) m.numbers = _ from HQ4.out]; exact ⟨rfl, Calm.next _ hb⟩); done)); go_big_quiet_on))))); refine wpQuiet_nil ?_; intro wq hwq; obtain ⟨iq, hwe⟩ := hwq; subst hwe)
            have HB3 := hide (below_step HB.out iq.below)
            go_wp2_with fail
            (go_ret; refine ⟨?_, below_step HV.out HB3.out⟩; rw [show validIxB ix = false from adj_fail (f := entF) HX.out (entF_no HNO.out)]; rfl)
        · have HNO := hide (entOk_no (m := m) (fun h => hq1 h.2.1))
          have z2 : (m.numbers.length : Int) < 1 := by omega
          clear hq1
          (refine wp_region_calm (by kernel_rfl) (by kernel_rfl) ?_; (repeat (first | go_big_quiet_skip | (go_big_quiet_want; go_big_quiet_op; (first | go_big_quiet_on | (apply Exists.intro; refine ⟨fun ic => ?_, ?_⟩; (focus (first | (go_at_call 112; refine (wordOk_c m.word _ HSZ.out).mono ?_; rintro e w2 ⟨rfl, hb⟩; rw [HQ1.out]; exact ⟨rfl, Calm.next _ hb⟩) | (go_at_call 113; refine (rising_c _ (fun n => inB n 1 1000000000) _ m.numbers _ (H3.out.below ic.below) eg (fun n W => isNumber_c n W)).mono ?_; rintro e w2 ⟨rfl, hb⟩; rw [show risesB (fun n => inB n 1 1000000000) m.numbers = _ from HQ4.out]; exact ⟨rfl, Calm.next _ hb⟩); done)); go_big_quiet_on))))); refine wpQuiet_nil ?_; intro wq hwq; obtain ⟨iq, hwe⟩ := hwq; subst hwe)
          have HB3 := hide (below_step HB.out iq.below)
          go_wp2_with fail
          (go_ret; refine ⟨?_, below_step HV.out HB3.out⟩; rw [show validIxB ix = false from adj_fail (f := entF) HX.out (entF_no HNO.out)]; rfl)
      · have HNO := hide (entOk_no (m := m) (fun h => hq0 h.1))
        have HQ1 := hide (show wordB m.word = false by simpa using hq0)
        clear hq0
        (refine wp_region_calm (by kernel_rfl) (by kernel_rfl) ?_; (repeat (first | go_big_quiet_skip | (go_big_quiet_want; go_big_quiet_op; (first | go_big_quiet_on | (apply Exists.intro; refine ⟨fun ic => ?_, ?_⟩; (focus (first | (go_at_call 112; refine (wordOk_c m.word _ HSZ.out).mono ?_; rintro e w2 ⟨rfl, hb⟩; rw [HQ1.out]; exact ⟨rfl, Calm.next _ hb⟩) | (go_at_call 113; refine (rising_c _ (fun n => inB n 1 1000000000) _ m.numbers _ (H3.out.below ic.below) eg (fun n W => isNumber_c n W)).mono ?_; rintro e w2 ⟨rfl, hb⟩; rw [show risesB (fun n => inB n 1 1000000000) m.numbers = _ from HQ4.out]; exact ⟨rfl, Calm.next _ hb⟩); done)); go_big_quiet_on))))); refine wpQuiet_nil ?_; intro wq hwq; obtain ⟨iq, hwe⟩ := hwq; subst hwe)
        have HB3 := hide (below_step HB.out iq.below)
        go_wp2_with fail
        (go_ret; refine ⟨?_, below_step HV.out HB3.out⟩; rw [show validIxB ix = false from adj_fail (f := entF) HX.out (entF_no HNO.out)]; rfl)
    · have : k = ix.entries.length := by omega
      subst this
      have hr := hide (show validIxB ix = true from adj_all HT.out)
      clear HA
      go_wp2_with fail
      go_ret
      exact ⟨by rw [hr.out]; rfl, below_step HV.out HB.out⟩
set_option maxHeartbeats 4000000 in
set_option maxRecDepth 100000 in
theorem l08Is_c (ix : Index) (b o : Nat) (w : World) (hp : RowAt indexD w b o [ix]) (ht : okIndex ix) :
    Calls Try.prog 49 #[.pointer (some ⟨b, o, none⟩)] w fun e w' => e = .returned (.bool (validIxB ix)) ∧ Below w.heap.size w w' := by
  obtain ⟨v1, h1, hbz, hb0⟩ := index_at hp (Below.refl _ _) (j := 0) rfl
  simp only [Nat.add_zero] at hb0
  obtain ⟨A, c, rfl, hl, hm, hra⟩ := h1
  have HA := hide hra
  have HTX := hide ht
  clear hra ht hp
  go_enter Try.func49, Try.ntmps49
  go_wp2_with fail
  go_loopg [3] ix.entries.length (fun gg s8 wr => ∃ k : Nat, k ≤ ix.entries.length ∧ ix.entries.length - k ≤ gg ∧ s8 = .int .i64 k ∧ Hid (∀ j y, j < k → ix.entries[j]? = some y → entF y (prevAt ix.entries j) = true) ∧ Hid (Below w.heap.size w wr))
  case atStart => exact ⟨0, Nat.zero_le _, by omega, rfl, hide (by intro j y hj; omega), Below.refl _ _⟩
  case round =>
    obtain ⟨k, hk, hg, rfl, HT, HB⟩ := hrel
    have hb0 := cell_below HB.out hb0
    have hbr := Nat.lt_of_lt_of_le hbz HB.out.size
    by_cases hlt : k < ix.entries.length
    · obtain ⟨m, hx⟩ : ∃ m, ix.entries[k]? = some m := ⟨_, List.getElem?_eq_getElem hlt⟩
      rcases HA.out with hnil | ⟨q, o2, rfl, hra⟩
      · rw [hnil] at hlt; simp at hlt
      obtain ⟨v3, h3, hq, hc0, hc1⟩ := entry_at hra HB.out hx
      obtain ⟨A3, c3, rfl⟩ := h3.shape
      have HSZ := hide (HTX.out m (List.mem_of_getElem? hx))
      have HX := hide hx
      have HRA := hide hra
      have hlt2 : (k : Int) < (ix.entries.length : Int) := by omega
      obtain ⟨_, h3w, _⟩ := entry_at hra (Below.refl _ _) hx
      have H3 := hide (show SliceK intD w (.slice A3 m.numbers.length c3) m.numbers from by
        obtain ⟨cs, hk, hc⟩ := hra k m hx
        obtain ⟨v9, rfl, h9⟩ := entry_K hk
        have h8 := cell_below HB.out (hc 1 _ rfl)
        rw [show o2 + k * entryD.sz + 1 = o2 + k * 2 + 1 from rfl, hc1] at h8
        cases h8; exact h9)
      clear hx hra h3 HA h3w
      by_cases hq0 : wordB m.word = true
      · have HQ1 := hide hq0
        clear hq0
        by_cases hk0 : 0 < k
        · obtain ⟨pr, hy⟩ : ∃ pr, ix.entries[k - 1]? = some pr := ⟨_, List.getElem?_eq_getElem (by omega)⟩
          have HV2 := hide (prevAt_succ hk0 hy)
          have HY := hide hy
          have hk1 : decide (0 < k) = true := by simp; omega
          have hk3 : (1 : Int) ≤ (k : Int) := by omega
          have hk5 : IntKind.i64.wrap ((k : Int) - 1) = (k : Int) - 1 := IntWalk.i64_in _ (by omega)
          have hk6 : (0 : Int) ≤ (k : Int) - 1 := by omega
          have hk7 : ((k : Int) - 1).toNat = k - 1 := by omega
          clear hy
          by_cases hlt3 : wLt pr.word m.word = true
          · have hn2 : Op.bytesLess pr.word.toList m.word.toList = true := hlt3
            have HL := hide hlt3
            clear hlt3
            obtain ⟨_, _, hqd, hd0, _⟩ := entry_at HRA.out HB.out HY.out
            by_cases hq1 : 1 ≤ (m.numbers.length : Int)
            · have Q2 := hide hq1
              have z2 : ¬ (m.numbers.length : Int) < 1 := by omega
              clear hq1
              by_cases hq2 : (m.numbers.length : Int) ≤ 40
              · have Q3 := hide hq2
                have z3 : ¬ (40 : Int) < (m.numbers.length : Int) := by omega
                clear hq2
                by_cases hq3 : numsB m.numbers = true
                · have HQ4 := hide hq3
                  clear hq3
                  have HOK := hide (entOk_yes HQ1.out Q2.out Q3.out HQ4.out)
                  go_wp2_with fail
                  (refine wp_region_calm (by kernel_rfl) (by kernel_rfl) ?_; (repeat (first | go_big_quiet_skip | (go_big_quiet_want; go_big_quiet_op; (first | go_big_quiet_on | (apply Exists.intro; refine ⟨fun ic => ?_, ?_⟩; (focus ((go_at_call 108; refine (l08Word_c m.word _ HSZ.out).mono ?_; rintro e w2 ⟨rfl, hb⟩; rw [HQ1.out]; exact ⟨rfl, Calm.next _ hb⟩); done)); go_big_quiet_on))))); refine wpQuiet_nil ?_; intro wq hwq; obtain ⟨iq, hwe⟩ := hwq; subst hwe)
                  have HB3 := hide (below_step HB.out iq.below)
                  have e1 := cell_below iq.below hc1
                  have ez := Nat.lt_of_lt_of_le hq iq.size
                  go_wp2_with (
                    go_at_call 109
                    refine (l00Rises_c _ m.numbers 1 1000000000 _ (H3.out.below HB3.out)).mono ?_
                    rintro e w3 ⟨rfl, hb⟩
                    rw [show risesB (fun n => inB n 1 1000000000) m.numbers = _ from HQ4.out]
                    have HB4 := hide (below_step HB3.out hb)
                    clear hb)
                  (go_roundg (ix.entries.length - (k + 1)); (case measure => omega); (case rel => exact ⟨k + 1, by omega, by omega, by go_num, hide (adj_step HT.out HX.out (by rw [HV2.out]; exact entF_some HOK.out HL.out)), HB4⟩))
                · have HNO := hide (entOk_no (m := m) (fun h => hq3 h.2.2.2))
                  have HQ4 := hide (show numsB m.numbers = false by simpa using hq3)
                  clear hq3
                  go_wp2_with fail
                  (refine wp_region_calm (by kernel_rfl) (by kernel_rfl) ?_; (repeat (first | go_big_quiet_skip | (go_big_quiet_want; go_big_quiet_op; (first | go_big_quiet_on | (apply Exists.intro; refine ⟨fun ic => ?_, ?_⟩; (focus ((go_at_call 108; refine (l08Word_c m.word _ HSZ.out).mono ?_; rintro e w2 ⟨rfl, hb⟩; rw [HQ1.out]; exact ⟨rfl, Calm.next _ hb⟩); done)); go_big_quiet_on))))); refine wpQuiet_nil ?_; intro wq hwq; obtain ⟨iq, hwe⟩ := hwq; subst hwe)
                  have HB3 := hide (below_step HB.out iq.below)
                  have e1 := cell_below iq.below hc1
                  have ez := Nat.lt_of_lt_of_le hq iq.size
                  go_wp2_with (
                    go_at_call 109
                    refine (l00Rises_c _ m.numbers 1 1000000000 _ (H3.out.below HB3.out)).mono ?_
                    rintro e w3 ⟨rfl, hb⟩
                    rw [show risesB (fun n => inB n 1 1000000000) m.numbers = _ from HQ4.out]
                    have HB4 := hide (below_step HB3.out hb)
                    clear hb)
                  (go_ret; refine ⟨?_, by first | exact HB4.out | exact HB3.out⟩; rw [show validIxB ix = false from adj_fail (f := entF) HX.out (entF_no HNO.out)]; rfl)
              · have HNO := hide (entOk_no (m := m) (fun h => hq2 h.2.2.1))
                have z3 : (40 : Int) < (m.numbers.length : Int) := by omega
                clear hq2
                go_wp2_with fail
                (refine wp_region_calm (by kernel_rfl) (by kernel_rfl) ?_; (repeat (first | go_big_quiet_skip | (go_big_quiet_want; go_big_quiet_op; (first | go_big_quiet_on | (apply Exists.intro; refine ⟨fun ic => ?_, ?_⟩; (focus ((go_at_call 108; refine (l08Word_c m.word _ HSZ.out).mono ?_; rintro e w2 ⟨rfl, hb⟩; rw [HQ1.out]; exact ⟨rfl, Calm.next _ hb⟩); done)); go_big_quiet_on))))); refine wpQuiet_nil ?_; intro wq hwq; obtain ⟨iq, hwe⟩ := hwq; subst hwe)
                have HB3 := hide (below_step HB.out iq.below)
                have e1 := cell_below iq.below hc1
                have ez := Nat.lt_of_lt_of_le hq iq.size
                go_wp2_with (
                  go_at_call 109
                  refine (l00Rises_c _ m.numbers 1 1000000000 _ (H3.out.below HB3.out)).mono ?_
                  rintro e w3 ⟨rfl, hb⟩
                  rw [show risesB (fun n => inB n 1 1000000000) m.numbers = _ from HQ4.out]
                  have HB4 := hide (below_step HB3.out hb)
                  clear hb)
                (go_ret; refine ⟨?_, by first | exact HB4.out | exact HB3.out⟩; rw [show validIxB ix = false from adj_fail (f := entF) HX.out (entF_no HNO.out)]; rfl)
            · have HNO := hide (entOk_no (m := m) (fun h => hq1 h.2.1))
              have z2 : (m.numbers.length : Int) < 1 := by omega
              clear hq1
              go_wp2_with fail
              (refine wp_region_calm (by kernel_rfl) (by kernel_rfl) ?_; (repeat (first | go_big_quiet_skip | (go_big_quiet_want; go_big_quiet_op; (first | go_big_quiet_on | (apply Exists.intro; refine ⟨fun ic => ?_, ?_⟩; (focus ((go_at_call 108; refine (l08Word_c m.word _ HSZ.out).mono ?_; rintro e w2 ⟨rfl, hb⟩; rw [HQ1.out]; exact ⟨rfl, Calm.next _ hb⟩); done)); go_big_quiet_on))))); refine wpQuiet_nil ?_; intro wq hwq; obtain ⟨iq, hwe⟩ := hwq; subst hwe)
              have HB3 := hide (below_step HB.out iq.below)
              have e1 := cell_below iq.below hc1
              have ez := Nat.lt_of_lt_of_le hq iq.size
              go_wp2_with (
                go_at_call 109
                refine (l00Rises_c _ m.numbers 1 1000000000 _ (H3.out.below HB3.out)).mono ?_
                rintro e w3 ⟨rfl, hb⟩
                rw [show risesB (fun n => inB n 1 1000000000) m.numbers = _ from HQ4.out]
                have HB4 := hide (below_step HB3.out hb)
                clear hb)
              (go_ret; refine ⟨?_, by first | exact HB4.out | exact HB3.out⟩; rw [show validIxB ix = false from adj_fail (f := entF) HX.out (entF_no HNO.out)]; rfl)
          · have HL := hide (show wLt pr.word m.word = false by simpa using hlt3)
            have hn2 : Op.bytesLess pr.word.toList m.word.toList = false := HL.out
            clear hlt3
            obtain ⟨_, _, hqd, hd0, _⟩ := entry_at HRA.out HB.out HY.out
            go_wp2_with fail
            (refine wp_region_calm (by kernel_rfl) (by kernel_rfl) ?_; (repeat (first | go_big_quiet_skip | (go_big_quiet_want; go_big_quiet_op; (first | go_big_quiet_on | (apply Exists.intro; refine ⟨fun ic => ?_, ?_⟩; (focus ((go_at_call 108; refine (l08Word_c m.word _ HSZ.out).mono ?_; rintro e w2 ⟨rfl, hb⟩; rw [HQ1.out]; exact ⟨rfl, Calm.next _ hb⟩); done)); go_big_quiet_on))))); refine wpQuiet_nil ?_; intro wq hwq; obtain ⟨iq, hwe⟩ := hwq; subst hwe)
            have HB3 := hide (below_step HB.out iq.below)
            have e1 := cell_below iq.below hc1
            have ez := Nat.lt_of_lt_of_le hq iq.size
            go_wp2_with (
              go_at_call 109
              refine (l00Rises_c _ m.numbers 1 1000000000 _ (H3.out.below HB3.out)).mono ?_
              rintro e w3 ⟨rfl, hb⟩
              rw [show risesB (fun n => inB n 1 1000000000) m.numbers = _ from HQ4.out]
              have HB4 := hide (below_step HB3.out hb)
              clear hb)
            (go_ret; refine ⟨?_, by first | exact HB4.out | exact HB3.out⟩; rw [show validIxB ix = false from adj_fail (f := entF) HX.out (by rw [HV2.out]; exact entF_ord HL.out)]; rfl)
        · have hk1 : decide (0 < k) = false := by simp; omega
          have HV2 := hide (show prevAt ix.entries k = none by unfold prevAt; rw [if_pos (by omega)])
          clear hk0
          by_cases hq1 : 1 ≤ (m.numbers.length : Int)
          · have Q2 := hide hq1
            have z2 : ¬ (m.numbers.length : Int) < 1 := by omega
            clear hq1
            by_cases hq2 : (m.numbers.length : Int) ≤ 40
            · have Q3 := hide hq2
              have z3 : ¬ (40 : Int) < (m.numbers.length : Int) := by omega
              clear hq2
              by_cases hq3 : numsB m.numbers = true
              · have HQ4 := hide hq3
                clear hq3
                have HOK := hide (entOk_yes HQ1.out Q2.out Q3.out HQ4.out)
                go_wp2_with fail
                (refine wp_region_calm (by kernel_rfl) (by kernel_rfl) ?_; (repeat (first | go_big_quiet_skip | (go_big_quiet_want; go_big_quiet_op; (first | go_big_quiet_on | (apply Exists.intro; refine ⟨fun ic => ?_, ?_⟩; (focus ((go_at_call 108; refine (l08Word_c m.word _ HSZ.out).mono ?_; rintro e w2 ⟨rfl, hb⟩; rw [HQ1.out]; exact ⟨rfl, Calm.next _ hb⟩); done)); go_big_quiet_on))))); refine wpQuiet_nil ?_; intro wq hwq; obtain ⟨iq, hwe⟩ := hwq; subst hwe)
                have HB3 := hide (below_step HB.out iq.below)
                have e1 := cell_below iq.below hc1
                have ez := Nat.lt_of_lt_of_le hq iq.size
                go_wp2_with (
                  go_at_call 109
                  refine (l00Rises_c _ m.numbers 1 1000000000 _ (H3.out.below HB3.out)).mono ?_
                  rintro e w3 ⟨rfl, hb⟩
                  rw [show risesB (fun n => inB n 1 1000000000) m.numbers = _ from HQ4.out]
                  have HB4 := hide (below_step HB3.out hb)
                  clear hb)
                (go_roundg (ix.entries.length - (k + 1)); (case measure => omega); (case rel => exact ⟨k + 1, by omega, by omega, by go_num, hide (adj_step HT.out HX.out (by rw [HV2.out]; exact entF_none HOK.out)), HB4⟩))
              · have HNO := hide (entOk_no (m := m) (fun h => hq3 h.2.2.2))
                have HQ4 := hide (show numsB m.numbers = false by simpa using hq3)
                clear hq3
                go_wp2_with fail
                (refine wp_region_calm (by kernel_rfl) (by kernel_rfl) ?_; (repeat (first | go_big_quiet_skip | (go_big_quiet_want; go_big_quiet_op; (first | go_big_quiet_on | (apply Exists.intro; refine ⟨fun ic => ?_, ?_⟩; (focus ((go_at_call 108; refine (l08Word_c m.word _ HSZ.out).mono ?_; rintro e w2 ⟨rfl, hb⟩; rw [HQ1.out]; exact ⟨rfl, Calm.next _ hb⟩); done)); go_big_quiet_on))))); refine wpQuiet_nil ?_; intro wq hwq; obtain ⟨iq, hwe⟩ := hwq; subst hwe)
                have HB3 := hide (below_step HB.out iq.below)
                have e1 := cell_below iq.below hc1
                have ez := Nat.lt_of_lt_of_le hq iq.size
                go_wp2_with (
                  go_at_call 109
                  refine (l00Rises_c _ m.numbers 1 1000000000 _ (H3.out.below HB3.out)).mono ?_
                  rintro e w3 ⟨rfl, hb⟩
                  rw [show risesB (fun n => inB n 1 1000000000) m.numbers = _ from HQ4.out]
                  have HB4 := hide (below_step HB3.out hb)
                  clear hb)
                (go_ret; refine ⟨?_, by first | exact HB4.out | exact HB3.out⟩; rw [show validIxB ix = false from adj_fail (f := entF) HX.out (entF_no HNO.out)]; rfl)
            · have HNO := hide (entOk_no (m := m) (fun h => hq2 h.2.2.1))
              have z3 : (40 : Int) < (m.numbers.length : Int) := by omega
              clear hq2
              go_wp2_with fail
              (refine wp_region_calm (by kernel_rfl) (by kernel_rfl) ?_; (repeat (first | go_big_quiet_skip | (go_big_quiet_want; go_big_quiet_op; (first | go_big_quiet_on | (apply Exists.intro; refine ⟨fun ic => ?_, ?_⟩; (focus ((go_at_call 108; refine (l08Word_c m.word _ HSZ.out).mono ?_; rintro e w2 ⟨rfl, hb⟩; rw [HQ1.out]; exact ⟨rfl, Calm.next _ hb⟩); done)); go_big_quiet_on))))); refine wpQuiet_nil ?_; intro wq hwq; obtain ⟨iq, hwe⟩ := hwq; subst hwe)
              have HB3 := hide (below_step HB.out iq.below)
              have e1 := cell_below iq.below hc1
              have ez := Nat.lt_of_lt_of_le hq iq.size
              go_wp2_with (
                go_at_call 109
                refine (l00Rises_c _ m.numbers 1 1000000000 _ (H3.out.below HB3.out)).mono ?_
                rintro e w3 ⟨rfl, hb⟩
                rw [show risesB (fun n => inB n 1 1000000000) m.numbers = _ from HQ4.out]
                have HB4 := hide (below_step HB3.out hb)
                clear hb)
              (go_ret; refine ⟨?_, by first | exact HB4.out | exact HB3.out⟩; rw [show validIxB ix = false from adj_fail (f := entF) HX.out (entF_no HNO.out)]; rfl)
          · have HNO := hide (entOk_no (m := m) (fun h => hq1 h.2.1))
            have z2 : (m.numbers.length : Int) < 1 := by omega
            clear hq1
            go_wp2_with fail
            (refine wp_region_calm (by kernel_rfl) (by kernel_rfl) ?_; (repeat (first | go_big_quiet_skip | (go_big_quiet_want; go_big_quiet_op; (first | go_big_quiet_on | (apply Exists.intro; refine ⟨fun ic => ?_, ?_⟩; (focus ((go_at_call 108; refine (l08Word_c m.word _ HSZ.out).mono ?_; rintro e w2 ⟨rfl, hb⟩; rw [HQ1.out]; exact ⟨rfl, Calm.next _ hb⟩); done)); go_big_quiet_on))))); refine wpQuiet_nil ?_; intro wq hwq; obtain ⟨iq, hwe⟩ := hwq; subst hwe)
            have HB3 := hide (below_step HB.out iq.below)
            have e1 := cell_below iq.below hc1
            have ez := Nat.lt_of_lt_of_le hq iq.size
            go_wp2_with (
              go_at_call 109
              refine (l00Rises_c _ m.numbers 1 1000000000 _ (H3.out.below HB3.out)).mono ?_
              rintro e w3 ⟨rfl, hb⟩
              rw [show risesB (fun n => inB n 1 1000000000) m.numbers = _ from HQ4.out]
              have HB4 := hide (below_step HB3.out hb)
              clear hb)
            (go_ret; refine ⟨?_, by first | exact HB4.out | exact HB3.out⟩; rw [show validIxB ix = false from adj_fail (f := entF) HX.out (entF_no HNO.out)]; rfl)
      · have HNO := hide (entOk_no (m := m) (fun h => hq0 h.1))
        have HQ1 := hide (show wordB m.word = false by simpa using hq0)
        clear hq0
        go_wp2_with fail
        (refine wp_region_calm (by kernel_rfl) (by kernel_rfl) ?_; (repeat (first | go_big_quiet_skip | (go_big_quiet_want; go_big_quiet_op; (first | go_big_quiet_on | (apply Exists.intro; refine ⟨fun ic => ?_, ?_⟩; (focus ((go_at_call 108; refine (l08Word_c m.word _ HSZ.out).mono ?_; rintro e w2 ⟨rfl, hb⟩; rw [HQ1.out]; exact ⟨rfl, Calm.next _ hb⟩); done)); go_big_quiet_on))))); refine wpQuiet_nil ?_; intro wq hwq; obtain ⟨iq, hwe⟩ := hwq; subst hwe)
        have HB3 := hide (below_step HB.out iq.below)
        have e1 := cell_below iq.below hc1
        have ez := Nat.lt_of_lt_of_le hq iq.size
        go_wp2_with (
          go_at_call 109
          refine (l00Rises_c _ m.numbers 1 1000000000 _ (H3.out.below HB3.out)).mono ?_
          rintro e w3 ⟨rfl, hb⟩
          rw [show risesB (fun n => inB n 1 1000000000) m.numbers = _ from HQ4.out]
          have HB4 := hide (below_step HB3.out hb)
          clear hb)
        (go_ret; refine ⟨?_, by first | exact HB4.out | exact HB3.out⟩; rw [show validIxB ix = false from adj_fail (f := entF) HX.out (entF_no HNO.out)]; rfl)
    · have : k = ix.entries.length := by omega
      subst this
      have hr := hide (show validIxB ix = true from adj_all HT.out)
      clear HA
      go_wp2_with fail
      go_ret
      exact ⟨by rw [hr.out]; rfl, HB.out⟩
end Go.Proofs.Yticjphaagmnahaa
