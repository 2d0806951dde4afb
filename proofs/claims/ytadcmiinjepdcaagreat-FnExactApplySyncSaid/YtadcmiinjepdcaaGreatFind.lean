/- The place of a message in a log: the program and the reference. -/
import Derived.Test.YtadcmiinjepdcaaGreatValidLog
import Derived.Test.YtadcmiinjepdcaaGreatIdx
import Derived.Test.YtadcmiinjepdcaaGreatPtr
import Derived.Test.YtadcmiinjepdcaaGreatLawInt
import Derived.Shelf.Abstract
namespace Go.Proofs.YtadcmiinjepdcaaGreat
open Go Go.RowKit Go.BigFrame
attribute [local go_sem] Calm.cell Calm.frozen
set_option linter.unusedVariables false
set_option linter.unusedSimpArgs false

def msgArr (m : Message) (v7 : Value) : Array Value := #[.int .i64 m.number, .int .i64 m.sender, .int .i64 m.at_, .string m.text, .int .i64 m.edits, .bool m.gone, .int .i64 m.reply, v7]
def numIs (n : Int) (m : Message) : Bool := decide (m.number = n)

set_option maxHeartbeats 4000000 in
theorem indexMsg_c (g : Nat) (caps : Array Value) (p : Message → Bool) (ms : List Message) (v : Value) (w : World) (hm : SliceK messageD w v ms)
    (eg : ∀ args w, (callFunc g args).run Tryz.prog w = .ok (.enter g args) w)
    (hc : ∀ (m : Message) (v7 : Value) (W : World), Below w.heap.size w W → SliceK intD W v7 m.likes → Calls Tryz.prog g (#[.agg (msgArr m v7)] ++ caps) W fun e W' => e = .returned (.bool (p m)) ∧ Below W.heap.size W W') :
    Calls Tryz.prog 115 #[v, .func (.func g) #[] caps] w fun e w' => e = .returned (.int .i64 (idxP p ms)) ∧ Below w.heap.size w w' := by
  obtain ⟨A, c, rfl, hl, hmx, hra⟩ := hm
  have HA := hide hra
  have HC := hide hc
  clear hra hc
  go_enter Tryz.func115, Tryz.ntmps115
  go_wp2_with fail
  go_loopg [8] ms.length (fun gg s8 wr => ∃ k : Nat, k ≤ ms.length ∧ ms.length - k ≤ gg ∧ s8 = .int .i64 k ∧ Hid (∀ j y, j < k → ms[j]? = some y → p y = false) ∧ Hid (Below w.heap.size w wr))
  case atStart => exact ⟨0, Nat.zero_le _, by omega, rfl, hide (by intro j y hj; omega), Below.refl _ _⟩
  case round =>
    obtain ⟨k, hk, hg, rfl, HT, HB⟩ := hrel
    by_cases hlt : k < ms.length
    · obtain ⟨m, hx⟩ : ∃ m, ms[k]? = some m := ⟨_, List.getElem?_eq_getElem hlt⟩
      rcases HA.out with hnil | ⟨q, o2, rfl, hra⟩
      · rw [hnil] at hlt; simp at hlt
      obtain ⟨v7, h7, hq, hc0, hc1, hc2, hc3, hc4, hc5, hc6, hc7⟩ := message_at hra HB.out hx
      obtain ⟨A7, c7, rfl⟩ := h7.shape
      have HX := hide hx
      have H7 := hide h7
      have hlt2 : (k : Int) < (ms.length : Int) := by omega
      clear hx hra HA h7
      by_cases hpm : p m = true
      · have HPM := hide hpm
        clear hpm
        go_wp2_with (first
          | (go_at_fn g
             refine (HC.out m _ _ HB.out H7.out).mono ?_
             rintro e w1 ⟨rfl, hb⟩
             rw [HPM.out]
             have HN := hide (HB.out.trans (hb.mono HB.out.size))
             clear hb))
        go_ret
        exact ⟨by rw [idxP_hit HT.out HX.out HPM.out]; rfl, HN.out⟩
      · have HPM := hide (show p m = false by simpa using hpm)
        clear hpm
        go_wp2_with (first
          | (go_at_fn g
             refine (HC.out m _ _ HB.out H7.out).mono ?_
             rintro e w1 ⟨rfl, hb⟩
             rw [HPM.out]
             have HN := hide (HB.out.trans (hb.mono HB.out.size))
             clear hb))
        go_roundg (ms.length - (k + 1))
        case measure => omega
        case rel => exact ⟨k + 1, by omega, by omega, by go_num, hide (idxP_step HT.out HX.out HPM.out), HN⟩
    · have : k = ms.length := by omega
      subst this
      have hr := hide (idxP_miss HT.out)
      clear HA HC
      go_wp2_with fail
      go_ret
      exact ⟨by rw [hr.out]; rfl, HB.out⟩
set_option maxHeartbeats 1000000 in
theorem at1_c (m : Message) (v7 : Value) (b1 : Nat) (n : Int) (W : World) (h1 : W.cell? ⟨b1, 0, none⟩ = some (.int .i64 n)) (H7 : SliceK intD W v7 m.likes) :
    Calls Tryz.prog 116 (#[.agg (msgArr m v7)] ++ #[.pointer (some ⟨b1, 0, none⟩)]) W fun e W' => e = .returned (.bool (numIs n m)) ∧ Below W.heap.size W W' := by
  show Calls Tryz.prog 116 #[.agg #[.int .i64 m.number, .int .i64 m.sender, .int .i64 m.at_, .string m.text, .int .i64 m.edits, .bool m.gone, .int .i64 m.reply, v7], .pointer (some ⟨b1, 0, none⟩)] W _
  obtain ⟨A, c, rfl⟩ := H7.shape
  have hl1 := World.block_lt_of_cell? W _ h1
  simp only [] at hl1
  clear H7
  go_enter Tryz.func116, Tryz.ntmps116
  go_wp2_with fail
  all_goals
    go_ret
    refine ⟨?_, (Below.refl _ _).alloc (Nat.le_refl _) _⟩
    refine ret_bool ?_
    first
    | (simp [numIs, *]; done)
    | (rw [Bool.eq_iff_iff]; simp [numIs, *]; done)
set_option maxHeartbeats 4000000 in
theorem at_c (l : Log) (b o : Nat) (n : Int) (w : World) (hp : RowAt logD w b o [l]) :
    Calls Tryz.prog 110 #[.pointer (some ⟨b, o, none⟩), .int .i64 n] w fun e w' => e = .returned (.int .i64 (idxP (numIs n) l.messages)) ∧ Below w.heap.size w w' := by
  obtain ⟨v1, h1, hbz, hb0, hb1⟩ := log_at hp (Below.refl _ _) (j := 0) rfl
  simp only [Nat.zero_mul, Nat.add_zero] at hb0 hb1
  obtain ⟨A, c, rfl⟩ := h1.shape
  have H1 := hide h1
  clear h1 hp
  have eg := enters_of Tryz.func116 (by kernel_rfl) rfl
  have HW := hide ((Below.refl w.heap.size w).alloc (Nat.le_refl _) (.cells #[.int .i64 n] 2))
  have HC := hide (show (w.alloc (.cells #[.int .i64 n] 2)).cell? ⟨w.heap.size, 0, none⟩ = some (.int .i64 n) by simp)
  go_enter Tryz.func110, Tryz.ntmps110
  go_wp2_with (go_at_call 115
               refine (indexMsg_c _ _ (numIs n) l.messages _ _ (H1.out.below HW.out) eg (fun m v7 W hbW h7 => at1_c m v7 _ n W (cell_below hbW HC.out) h7)).mono ?_
               rintro e w1 ⟨rfl, hb⟩
               have HN := hide (HW.out.trans (hb.mono HW.out.size))
               clear hb)
  go_ret
  exact ⟨rfl, HN.out⟩
set_option maxHeartbeats 4000000 in
theorem l03Find_c (l : Log) (b o : Nat) (n : Int) (w : World) (hp : RowAt logD w b o [l]) :
    Calls Tryz.prog 104 #[.pointer (some ⟨b, o, none⟩), .int .i64 n] w fun e w' => e = .returned (.int .i64 (idxP (numIs n) l.messages)) ∧ Below w.heap.size w w' := by
  obtain ⟨v1, h1, hbz, hb0, hb1⟩ := log_at hp (Below.refl _ _) (j := 0) rfl
  simp only [Nat.zero_mul, Nat.add_zero] at hb0 hb1
  obtain ⟨A, c, rfl, hl, hm, hra⟩ := h1
  have HA := hide hra
  clear hra hp
  go_enter Tryz.func104, Tryz.ntmps104
  go_wp2_with fail
  go_loopg [11] l.messages.length (fun gg s11 wr => ∃ k : Nat, k ≤ l.messages.length ∧ l.messages.length - k ≤ gg ∧ s11 = .int .i64 k ∧ Hid (∀ j y, j < k → l.messages[j]? = some y → numIs n y = false) ∧ Hid (Below w.heap.size w wr))
  case atStart => exact ⟨0, Nat.zero_le _, by omega, rfl, hide (by intro j y hj; omega), Below.refl _ _⟩
  case round =>
    obtain ⟨k, hk, hg, rfl, HT, HB⟩ := hrel
    have hb0 := cell_below HB.out hb0
    have hb1 := cell_below HB.out hb1
    by_cases hlt : k < l.messages.length
    · obtain ⟨m, hx⟩ : ∃ m, l.messages[k]? = some m := ⟨_, List.getElem?_eq_getElem hlt⟩
      rcases HA.out with hnil | ⟨q, o2, rfl, hra⟩
      · rw [hnil] at hlt; simp at hlt
      obtain ⟨v7, h7, hq, hc0, hc1, hc2, hc3, hc4, hc5, hc6, hc7⟩ := message_at hra HB.out hx
      have HX := hide hx
      have hlt2 : (k : Int) < (l.messages.length : Int) := by omega
      clear hx hra HA h7
      by_cases hpm : m.number = n
      · have HPM := hide (show numIs n m = true by simp [numIs, hpm])
        go_wp2_with fail
        go_ret
        exact ⟨by rw [idxP_hit HT.out HX.out HPM.out]; rfl, HB.out⟩
      · have HPM := hide (show numIs n m = false by simp [numIs, hpm])
        go_wp2_with fail
        go_roundg (l.messages.length - (k + 1))
        case measure => omega
        case rel => exact ⟨k + 1, by omega, by omega, by go_num, hide (idxP_step HT.out HX.out HPM.out), HB⟩
    · have : k = l.messages.length := by omega
      subst this
      have hr := hide (idxP_miss HT.out)
      clear HA
      go_wp2_with fail
      go_ret
      exact ⟨by rw [hr.out]; rfl, HB.out⟩
end Go.Proofs.YtadcmiinjepdcaaGreat
