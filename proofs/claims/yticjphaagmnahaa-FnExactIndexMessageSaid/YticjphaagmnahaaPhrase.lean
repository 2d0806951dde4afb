/- Words that stand next to one another: the program and the reference. -/
import Derived.Test.YticjphaagmnahaaWordsSpec
import Derived.Test.YticjphaagmnahaaQuery
import Derived.Test.YticjphaagmnahaaStRow
namespace Go.Proofs.Yticjphaagmnahaa
open Go Go.RowKit Go.BigFrame
attribute [local go_sem] Calm.cell Calm.frozen
set_option linter.unusedVariables false
set_option linter.unusedSimpArgs false

theorem tx_iff {a b : ByteArray} : (a.toList == b.toList) = decide (a = b) := by
  rw [Bool.eq_iff_iff, beq_iff_eq, decide_eq_true_iff, bytes_eq]
def phAt (l p : List ByteArray) (i : Nat) : Bool := decide (i + p.length ≤ l.length) && decide ((l.drop i).take p.length = p)
/-- Whether words have others next to one another. -/
def hasPh (l p : List ByteArray) : Bool := (List.range (l.length + 1)).any (phAt l p)
theorem hasPh_yes {l p : List ByteArray} {i : Nat} (h1 : i + p.length ≤ l.length) (h2 : (l.drop i).take p.length = p) : hasPh l p = true := by
  unfold hasPh
  rw [List.any_eq_true]
  exact ⟨i, List.mem_range.2 (by omega), by unfold phAt; rw [decide_eq_true h1, decide_eq_true h2]; rfl⟩
theorem hasPh_no {l p : List ByteArray} (h : ∀ i, i + p.length ≤ l.length → (l.drop i).take p.length ≠ p) : hasPh l p = false := by
  unfold hasPh
  rw [List.any_eq_false]
  intro i _ h2
  unfold phAt at h2
  rw [Bool.and_eq_true, decide_eq_true_iff, decide_eq_true_iff] at h2
  exact h i h2.1 h2.2
set_option maxHeartbeats 4000000 in
set_option maxRecDepth 100000 in
theorem equalStr_c (va vb : Value) (a b : List ByteArray) (w : World) (ha : SliceK strD w va a) (hb : SliceK strD w vb b) :
    Calls Try.prog 130 #[va, vb] w fun e w' => e = .returned (.bool (decide (a = b))) ∧ Below w.heap.size w w' := by
  obtain ⟨A, c, rfl, hl1, hm1, hra⟩ := ha
  obtain ⟨B, c', rfl, hl2, hm2, hrb⟩ := hb
  by_cases hlen : a.length = b.length
  · have hne : (((a.length : Nat) : Int) != ((b.length : Nat) : Int)) = false := by simp [hlen]
    have HL := hide hlen
    have HA := hide hra
    have HB := hide hrb
    clear hlen hra hrb
    go_enter Try.func130, Try.ntmps130
    go_wp2_with fail
    go_loopg [13] a.length (fun gg s5 wr => ∃ k : Nat, k ≤ a.length ∧ a.length - k ≤ gg ∧ s5 = .int .i64 k ∧ Hid (a.take k = b.take k) ∧ Hid (Below w.heap.size w wr))
    case atStart => exact ⟨0, Nat.zero_le _, by omega, rfl, rfl, Below.refl _ _⟩
    case round =>
      obtain ⟨k, hk, hg, rfl, HT, HW⟩ := hrel
      by_cases hlt : k < a.length
      · obtain ⟨x, hx⟩ : ∃ x, a[k]? = some x := ⟨_, List.getElem?_eq_getElem hlt⟩
        have hkb : k < b.length := by have := HL.out; omega
        obtain ⟨y, hy⟩ : ∃ y, b[k]? = some y := ⟨_, List.getElem?_eq_getElem hkb⟩
        rcases HA.out with rfl | ⟨p, o, rfl, hra⟩
        · simp at hlt
        rcases HB.out with rfl | ⟨p', o', rfl, hrb⟩
        · simp at hkb
        obtain ⟨hp, hc⟩ := str_at hra HW.out hx
        obtain ⟨hp', hc'⟩ := str_at hrb HW.out hy
        have HX := hide hx
        have HY := hide hy
        have hlt2 : (k : Int) < (a.length : Int) := by omega
        have hkb2 : (k : Int) < (b.length : Int) := by omega
        clear hx hy hra hrb HA HB
        by_cases hxy : x = y
        · subst hxy
          go_wp2_with fail
          (refine wp_region_calm (by kernel_rfl) (by kernel_rfl) ?_; (repeat (first | go_big_quiet_skip | (go_big_quiet_want; go_big_quiet_op; (first | go_big_quiet_on | (apply Exists.intro; refine ⟨fun ic => ?_, ?_⟩; (focus (fail; done)); go_big_quiet_on))))); refine wpQuiet_nil ?_; intro wq hwq; obtain ⟨iq, hwe⟩ := hwq; subst hwe)
          have HW5 := hide (below_step HW.out iq.below)
          go_wp2_with fail
          go_roundg (a.length - (k + 1))
          case measure => omega
          case rel => exact ⟨k + 1, by omega, by omega, by go_num, hide (by rw [List.take_add_one, List.take_add_one, HX.out, HY.out, HT.out]), HW5⟩
        · have hb0 : (x.toList == y.toList) = false := beq_eq_false_iff_ne.2 fun e => hxy (bytes_eq.1 e)
          have HXY := hide hxy
          clear hxy
          go_wp2_with fail
          (refine wp_region_calm (by kernel_rfl) (by kernel_rfl) ?_; (repeat (first | go_big_quiet_skip | (go_big_quiet_want; go_big_quiet_op; (first | go_big_quiet_on | (apply Exists.intro; refine ⟨fun ic => ?_, ?_⟩; (focus (fail; done)); go_big_quiet_on))))); refine wpQuiet_nil ?_; intro wq hwq; obtain ⟨iq, hwe⟩ := hwq; subst hwe)
          have HW5 := hide (below_step HW.out iq.below)
          go_wp2_with fail
          go_ret
          exact ⟨by rw [eqAll_pre HT.out HX.out HY.out HXY.out]; rfl, HW5.out⟩
      · have : k = a.length := by omega
        subst this
        go_wp2_with fail
        go_ret
        exact ⟨by rw [show decide (a = b) = true from by rw [decide_eq_true_iff]; have := HT.out; rw [List.take_length] at this; rw [this, HL.out, List.take_length]]; rfl, HW.out⟩
  · have hne : (((a.length : Nat) : Int) != ((b.length : Nat) : Int)) = true := by simp; omega
    have he : decide (a = b) = false := by exact decide_eq_false (by rintro rfl; exact hlen rfl)
    have HE := hide he
    clear he hlen hra hrb
    go_enter Try.func130, Try.ntmps130
    go_wp2_with fail
    go_ret
    exact ⟨by rw [HE.out]; rfl, Below.refl _ _⟩
set_option maxHeartbeats 4000000 in
set_option maxRecDepth 100000 in
theorem hasPhrase_c (l p : List ByteArray) (vl vp : Value) (w : World) (hl : SliceK strD w vl l) (hp : SliceK strD w vp p) (h1 : 1 ≤ p.length) (h2 : p.length ≤ 1048576) (h3 : l.length ≤ 1048576) :
    Calls Try.prog 80 #[vl, vp] w fun e w' => e = .returned (.bool (hasPh l p)) ∧ Below w.heap.size w w' := by
  obtain ⟨Ap, cp, rfl⟩ := hp.shape
  obtain ⟨A, c, rfl, hlc, hm, hra⟩ := hl
  have HP := hide hp
  have HA := hide hra
  clear hp hra
  go_enter Try.func80, Try.ntmps80
  go_wp2_with fail
  go_loopg [5] (l.length + 1) (fun gg s5 wr => ∃ i : Nat, i ≤ l.length + 1 ∧ l.length + 1 - i ≤ gg ∧ s5 = .int .i64 i ∧ Hid (∀ j, j < i → (l.drop j).take p.length ≠ p) ∧ Hid (Below w.heap.size w wr))
  case atStart => exact ⟨0, by omega, by omega, rfl, hide (by intro j hj; omega), Below.refl _ _⟩
  case round =>
    obtain ⟨i, hi, hg, rfl, HT, HB⟩ := hrel
    by_cases hlt : i + p.length ≤ l.length
    · rcases HA.out with hnil | ⟨q, o, rfl, hra⟩
      · have hl0 : l.length = 0 := by rw [hnil]; rfl
        omega
      have hle : (i : Int) + (p.length : Int) ≤ (l.length : Int) := by omega
      have hic : ¬ c = i := by omega
      have hi0 : (0 : Int) ≤ (i : Int) := by omega
      have hic2 : (i : Int) + (p.length : Int) ≤ (c : Int) := by omega
      have hsum : ((i : Int) + (p.length : Int)).toNat = i + p.length := by omega
      have hip : (i : Int) ≤ (i : Int) + (p.length : Int) := by omega
      have HSL := hide (show SliceK strD w (.slice (some ⟨q, o + i, none⟩) p.length (c - i)) ((l.drop i).take p.length) from by
        have hk : SliceK strD w (.slice (some ⟨q, o, none⟩) l.length c) l := ⟨_, _, rfl, hlc, hm, .inr ⟨q, o, rfl, hra⟩⟩
        have h5 := SliceK.front (SliceK.back2 hk (by omega : i ≤ l.length) hic) (k := p.length) (by rw [List.length_drop]; omega)
        rw [show o + i * strD.sz = o + i from by rw [show strD.sz = 1 from rfl]; omega] at h5
        exact h5)
      clear hra HA
      by_cases hh : (l.drop i).take p.length = p
      · have HH := hide (decide_eq_true hh)
        have HR := hide (hasPh_yes hlt hh)
        clear hh
        go_wp2_with (
          go_at_call 130
          refine (equalStr_c _ _ ((l.drop i).take p.length) p _ (HSL.out.below HB.out) (HP.out.below HB.out)).mono ?_
          rintro e w1 ⟨rfl, hb⟩
          rw [HH.out]
          have HN := hide (below_step HB.out hb)
          clear hb)
        go_ret
        exact ⟨by rw [HR.out]; rfl, HN.out⟩
      · have HH := hide (decide_eq_false hh)
        have HHN := hide hh
        clear hh
        go_wp2_with (
          go_at_call 130
          refine (equalStr_c _ _ ((l.drop i).take p.length) p _ (HSL.out.below HB.out) (HP.out.below HB.out)).mono ?_
          rintro e w1 ⟨rfl, hb⟩
          rw [HH.out]
          have HN := hide (below_step HB.out hb)
          clear hb)
        go_roundg (l.length + 1 - (i + 1))
        case measure => omega
        case rel => exact ⟨i + 1, by omega, by omega, by go_num, hide (fun j hj => by
          by_cases e : j = i
          · subst e; exact HHN.out
          · exact HT.out j (by omega)), HN⟩
    · have hle : ¬ (i : Int) + (p.length : Int) ≤ (l.length : Int) := by omega
      have HR := hide (hasPh_no (l := l) (p := p) fun j hj => HT.out j (by omega))
      clear HA
      go_wp2_with fail
      go_ret
      exact ⟨by rw [HR.out]; rfl, HB.out⟩
theorem same_step {l p : List ByteArray} {i k : Nat} {x y : ByteArray} (hx : l[i + k]? = some x) (hy : p[k]? = some y) : decide ((l.drop i).take (k + 1) = p.take (k + 1)) = (decide ((l.drop i).take k = p.take k) && (x.toList == y.toList)) := by
  have hx2 : (l.drop i)[k]? = some x := by rw [List.getElem?_drop]; exact hx
  rw [List.take_add_one, List.take_add_one, hx2, hy, tx_iff, Bool.eq_iff_iff, Bool.and_eq_true]
  constructor
  · intro h
    have h := of_decide_eq_true h
    have hl : ((l.drop i).take k).length = (p.take k).length := by
      have h1 := (List.getElem?_eq_some_iff.1 hx2).1
      have h2 := (List.getElem?_eq_some_iff.1 hy).1
      rw [List.length_take, List.length_take]; omega
    have h2 := List.append_inj h hl
    exact ⟨decide_eq_true h2.1, decide_eq_true (by simpa using h2.2)⟩
  · rintro ⟨h1, h2⟩
    have h1 := of_decide_eq_true h1
    have h2 := of_decide_eq_true h2
    exact decide_eq_true (by rw [h1, h2])
set_option maxHeartbeats 4000000 in
set_option maxRecDepth 100000 in
theorem l08Phrase_c (l p : List ByteArray) (vl vp : Value) (w : World) (hl : SliceK strD w vl l) (hp : SliceK strD w vp p) (h1 : 1 ≤ p.length) (h2 : p.length ≤ 1048576) (h3 : l.length ≤ 1048576) :
    Calls Try.prog 74 #[vl, vp] w fun e w' => e = .returned (.bool (hasPh l p)) ∧ Below w.heap.size w w' := by
  obtain ⟨Ap, cp, rfl, hlcp, hmp, hrp⟩ := hp
  obtain ⟨A, c, rfl, hlc, hm, hra⟩ := hl
  have HP := hide hrp
  have HA := hide hra
  clear hrp hra
  go_enter Try.func74, Try.ntmps74
  go_wp2_with fail
  go_loopg [5] (l.length + 1) (fun gg s5 wr => ∃ i : Nat, i ≤ l.length + 1 ∧ l.length + 1 - i ≤ gg ∧ s5 = .int .i64 i ∧ Hid (∀ j, j < i → (l.drop j).take p.length ≠ p) ∧ Hid (Below w.heap.size w wr))
  case atStart => exact ⟨0, by omega, by omega, rfl, hide (by intro j hj; omega), Below.refl _ _⟩
  case round =>
    obtain ⟨i, hi, hg, rfl, HT, HBo⟩ := hrel
    obtain ⟨wo, hwo⟩ : ∃ V, V = wr := ⟨_, rfl⟩
    rw [← hwo] at HBo ⊢
    clear hwo
    by_cases hlt : i + p.length ≤ l.length
    · rcases HA.out with hnil | ⟨q, o, rfl, hra⟩
      · have hl0 : l.length = 0 := by rw [hnil]; rfl
        omega
      rcases HP.out with hnil | ⟨q2, o2, rfl, hrp⟩
      · have hl0 : p.length = 0 := by rw [hnil]; rfl
        omega
      have HRA := hide hra
      have HRP := hide hrp
      have hle : (i : Int) + (p.length : Int) ≤ (l.length : Int) := by omega
      clear hra hrp HA HP
      go_wp2_with fail
      go_loopg [6, 7] p.length (fun gg s6 s7 wr => ∃ k : Nat, k ≤ p.length ∧ p.length - k ≤ gg ∧ s7 = .int .i64 k ∧ s6 = .bool (decide ((l.drop i).take k = p.take k)) ∧ Hid (Below w.heap.size w wr))
      case atStart => exact ⟨0, by omega, by omega, rfl, by simp, HBo⟩
      case round =>
        obtain ⟨k, hk, hg2, rfl, rfl, HB⟩ := hrel
        by_cases hlk : k < p.length
        · obtain ⟨x, hx⟩ : ∃ x, l[i + k]? = some x := ⟨_, List.getElem?_eq_getElem (by omega)⟩
          obtain ⟨y, hy⟩ : ∃ y, p[k]? = some y := ⟨_, List.getElem?_eq_getElem hlk⟩
          obtain ⟨hq, hc⟩ := str_at HRA.out HB.out hx
          obtain ⟨hq2, hc2⟩ := str_at HRP.out HB.out hy
          have HSS := hide (same_step hx hy)
          have hlk2 : (k : Int) < (p.length : Int) := by omega
          have hik : (i : Int) + (k : Int) < (l.length : Int) := by omega
          have hik0 : (0 : Int) ≤ (i : Int) + (k : Int) := by omega
          have hikn : ((i : Int) + (k : Int)).toNat = i + k := by omega
          clear hx hy
          by_cases hs : (l.drop i).take k = p.take k
          · have hd : decide ((l.drop i).take k = p.take k) = true := decide_eq_true hs
            rw [hd] at HSS ⊢
            clear hs hd
            go_wp2_with fail
            (refine wp_region_calm (by kernel_rfl) (by kernel_rfl) ?_; (repeat (first | go_big_quiet_skip | (go_big_quiet_want; go_big_quiet_op; (first | go_big_quiet_on | (apply Exists.intro; refine ⟨fun ic => ?_, ?_⟩; (focus (fail; done)); go_big_quiet_on))))); refine wpQuiet_nil ?_; intro wq hwq; obtain ⟨iq, hwe⟩ := hwq; subst hwe)
            have HN := hide (below_step HB.out iq.below)
            go_wp2_with fail
            go_roundg (p.length - (k + 1))
            case measure => omega
            case rel => exact ⟨k + 1, by omega, by omega, by go_num, by rw [HSS.out, Bool.true_and], HN⟩
          · have hd : decide ((l.drop i).take k = p.take k) = false := decide_eq_false hs
            rw [hd] at HSS ⊢
            clear hs hd
            go_wp2_with fail
            (refine wp_region_calm (by kernel_rfl) (by kernel_rfl) ?_; (repeat (first | go_big_quiet_skip | (go_big_quiet_want; go_big_quiet_op; (first | go_big_quiet_on | (apply Exists.intro; refine ⟨fun ic => ?_, ?_⟩; (focus (fail; done)); go_big_quiet_on))))); refine wpQuiet_nil ?_; intro wq hwq; obtain ⟨iq, hwe⟩ := hwq; subst hwe)
            have HN := hide (below_step HB.out iq.below)
            go_wp2_with fail
            go_roundg (p.length - (k + 1))
            case measure => omega
            case rel => exact ⟨k + 1, by omega, by omega, by go_num, by rw [HSS.out, Bool.false_and], HN⟩
        · obtain rfl : k = p.length := by omega
          rw [List.take_length]
          by_cases hh : (l.drop i).take p.length = p
          · have HR := hide (hasPh_yes hlt hh)
            rw [decide_eq_true hh]
            clear hh
            go_wp2_with fail
            go_ret
            exact ⟨by rw [HR.out]; rfl, HB.out⟩
          · have HHN := hide hh
            rw [decide_eq_false hh]
            clear hh
            go_wp2_with fail
            go_roundg (l.length + 1 - (i + 1))
            case measure => omega
            case rel => exact ⟨i + 1, by omega, by omega, by go_num, hide (fun j hj => by
              by_cases e : j = i
              · subst e; exact HHN.out
              · exact HT.out j (by omega)), HB⟩
    · have hle : ¬ (i : Int) + (p.length : Int) ≤ (l.length : Int) := by omega
      have HR := hide (hasPh_no (l := l) (p := p) fun j hj => HT.out j (by omega))
      clear HA HP
      go_wp2_with fail
      go_ret
      exact ⟨by rw [HR.out]; rfl, HBo.out⟩
end Go.Proofs.Yticjphaagmnahaa
