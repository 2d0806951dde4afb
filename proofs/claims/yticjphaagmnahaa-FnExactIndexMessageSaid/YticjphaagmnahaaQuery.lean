/- Rows of words: a query is tested, a word is looked for. -/
import Derived.Test.YticjphaagmnahaaWordOk
import Derived.Test.YticjphaagmnahaaRGround
namespace Go.Proofs.Yticjphaagmnahaa
open Go Go.RowKit Go.BigFrame
attribute [local go_sem] Calm.cell Calm.frozen
set_option linter.unusedVariables false
set_option linter.unusedSimpArgs false

def queryB (l : List ByteArray) : Bool := decide (1 ≤ (l.length : Int)) && decide ((l.length : Int) ≤ 8) && l.all wordB
def strIs (t x : ByteArray) : Bool := x.toList == t.toList
/-- Whether words have a word. -/
def hasS (l : List ByteArray) (t : ByteArray) : Bool := decide (0 ≤ idxP (strIs t) l)
def okStrs (l : List ByteArray) : Prop := ∀ x ∈ l, x.size ≤ 9223372036854775807
theorem any_idx {α : Type} (p : α → Bool) (l : List α) : decide (0 ≤ idxP p l) = l.any p := by
  rcases idxP_cases p l with h | ⟨k, x, h1, h2, h3, h4⟩
  · rw [h]
    symm
    show l.any p = false
    rw [List.any_eq_false]
    intro x hx
    unfold idxP at h
    rcases hf : l.findIdx? p with _ | j
    · rw [List.findIdx?_eq_none_iff] at hf
      simpa using hf x hx
    · rw [hf] at h; simp at h <;> omega
  · rw [h1]
    have : decide ((0 : Int) ≤ (k : Int)) = true := by simp
    rw [this]
    symm
    show l.any p = true
    rw [List.any_eq_true]
    exact ⟨x, List.mem_of_getElem? h3, h4⟩
theorem notAny (l : List ByteArray) : (!decide (0 ≤ idxP (fun x => !wordB x) l)) = l.all wordB := by
  rw [any_idx, List.not_any_eq_all_not]
  congr 1
  funext x
  simp
set_option maxHeartbeats 4000000 in
theorem indexStrF_c (g : Nat) (caps : Array Value) (p : ByteArray → Bool) (ms : List ByteArray) (v : Value) (w : World) (hm : SliceK strD w v ms) (hok : okStrs ms)
    (eg : ∀ args w, (callFunc g args).run Try.prog w = .ok (.enter g args) w)
    (hc : ∀ (m : ByteArray) (W : World), m.size ≤ 9223372036854775807 → Below w.heap.size w W → Calls Try.prog g (#[.string m] ++ caps) W fun e W' => e = .returned (.bool (p m)) ∧ Below W.heap.size W W') :
    Calls Try.prog 146 #[v, .func (.func g) #[] caps] w fun e w' => e = .returned (.int .i64 (idxP p ms)) ∧ Below w.heap.size w w' := by
  obtain ⟨A, c, rfl, hl, hmx, hra⟩ := hm
  have HA := hide hra
  have HC := hide hc
  have HOK := hide hok
  clear hra hc hok
  go_enter Try.func146, Try.ntmps146
  go_wp2_with fail
  go_loopg [8] ms.length (fun gg s8 wr => ∃ k : Nat, k ≤ ms.length ∧ ms.length - k ≤ gg ∧ s8 = .int .i64 k ∧ Hid (∀ j y, j < k → ms[j]? = some y → p y = false) ∧ Hid (Below w.heap.size w wr))
  case atStart => exact ⟨0, Nat.zero_le _, by omega, rfl, hide (by intro j y hj; omega), Below.refl _ _⟩
  case round =>
    obtain ⟨k, hk, hg, rfl, HT, HB⟩ := hrel
    by_cases hlt : k < ms.length
    · obtain ⟨m, hx⟩ : ∃ m, ms[k]? = some m := ⟨_, List.getElem?_eq_getElem hlt⟩
      rcases HA.out with hnil | ⟨q, o2, rfl, hra⟩
      · rw [hnil] at hlt; simp at hlt
      obtain ⟨hq, hc0⟩ := str_at hra HB.out hx
      have HMS := hide (HOK.out m (List.mem_of_getElem? hx))
      have HX := hide hx
      have hlt2 : (k : Int) < (ms.length : Int) := by omega
      clear hx hra HA
      by_cases hpm : p m = true
      · have HPM := hide hpm
        clear hpm
        go_wp2_with (first
          | (go_at_fn g
             refine (HC.out m _ HMS.out HB.out).mono ?_
             rintro e w1 ⟨rfl, hb⟩
             rw [HPM.out]
             have HN := hide (HB.out.trans (hb.mono HB.out.size))
             clear hb))
        go_ret
        exact ⟨by rw [idxP_hit HT.out HX.out HPM.out]; rfl, HN.out⟩
      · have HPM := hide (show p m = false by simpa using hpm)
        clear hpm
        go_wp2_with (first
          | (go_at_fn g
             refine (HC.out m _ HMS.out HB.out).mono ?_
             rintro e w1 ⟨rfl, hb⟩
             rw [HPM.out]
             have HN := hide (HB.out.trans (hb.mono HB.out.size))
             clear hb))
        go_roundg (ms.length - (k + 1))
        case measure => omega
        case rel => exact ⟨k + 1, by omega, by omega, by go_num, hide (idxP_step HT.out HX.out HPM.out), HN⟩
    · have : k = ms.length := by omega
      subst this
      have hr := hide (idxP_miss HT.out)
      clear HA HC
      go_wp2_with fail
      go_ret
      exact ⟨by rw [hr.out]; rfl, HB.out⟩
set_option maxHeartbeats 4000000 in
theorem containsStrF_c (g : Nat) (caps : Array Value) (p : ByteArray → Bool) (ms : List ByteArray) (v : Value) (w : World) (hm : SliceK strD w v ms) (hok : okStrs ms)
    (eg : ∀ args w, (callFunc g args).run Try.prog w = .ok (.enter g args) w)
    (hc : ∀ (m : ByteArray) (W : World), m.size ≤ 9223372036854775807 → Below w.heap.size w W → Calls Try.prog g (#[.string m] ++ caps) W fun e W' => e = .returned (.bool (p m)) ∧ Below W.heap.size W W') :
    Calls Try.prog 115 #[v, .func (.func g) #[] caps] w fun e w' => e = .returned (.bool (decide (0 ≤ idxP p ms))) ∧ Below w.heap.size w w' := by
  obtain ⟨A, c, rfl⟩ := hm.shape
  have HM := hide hm
  have HC := hide hc
  have HOK := hide hok
  clear hm hc hok
  go_enter Try.func115, Try.ntmps115
  go_wp2_with (go_at_call 146
               refine (indexStrF_c g caps p ms _ _ HM.out HOK.out eg HC.out).mono ?_
               rintro e w1 ⟨rfl, hb⟩
               have HN := hide hb
               clear hb)
  go_ret
  exact ⟨rfl, HN.out⟩
theorem queryOk1_c (s : ByteArray) (w : World) (hs : s.size ≤ 9223372036854775807) : Calls Try.prog 116 #[.string s] w fun e w' => e = .returned (.bool (!wordB s)) ∧ Below w.heap.size w w' := by
  go_enter Try.func116, Try.ntmps116
  go_wp2_with (go_at_call 112; refine (wordOk_c _ _ hs).mono ?_; rintro e w1 ⟨rfl, hb⟩; have HN := hide hb; clear hb)
  go_ret
  exact ⟨rfl, HN.out⟩
set_option maxHeartbeats 4000000 in
theorem queryOk_c (l : List ByteArray) (v : Value) (w : World) (hl : SliceK strD w v l) (hok : okStrs l) : Calls Try.prog 55 #[v] w fun e w' => e = .returned (.bool (queryB l)) ∧ Below w.heap.size w w' := by
  obtain ⟨A, c, rfl⟩ := hl.shape
  have HL := hide hl
  have HOK := hide hok
  clear hl hok
  have eg := enters_of Try.func116 (by kernel_rfl) rfl
  by_cases h0 : 1 ≤ (l.length : Int)
  · by_cases h1 : (l.length : Int) ≤ 8
    · have hr := hide (show queryB l = !decide (0 ≤ idxP (fun x => !wordB x) l) by rw [notAny]; simp only [queryB, decide_eq_true h0, decide_eq_true h1, Bool.true_and])
      go_enter Try.func55, Try.ntmps55
      go_wp2_with (
        go_at_call 115
        refine (containsStrF_c _ #[] (fun x => !wordB x) l _ _ HL.out HOK.out eg (fun m W hm hb => queryOk1_c m W hm)).mono ?_
        rintro e w1 ⟨rfl, hb⟩
        have HN := hide hb
        clear hb)
      go_ret
      exact ⟨by rw [hr.out]; rfl, HN.out⟩
    · have hr := hide (show queryB l = false by simp only [queryB, decide_eq_false h1, Bool.and_false, Bool.false_and])
      have hd : decide ((l.length : Int) ≤ 8) = false := decide_eq_false h1
      go_enter Try.func55, Try.ntmps55
      go_wp2_with fail
      go_ret
      exact ⟨by rw [hr.out]; rfl, Below.refl _ _⟩
  · have hr := hide (show queryB l = false by simp only [queryB, decide_eq_false h0, Bool.false_and])
    have hd : decide (1 ≤ (l.length : Int)) = false := decide_eq_false h0
    go_enter Try.func55, Try.ntmps55
    go_wp2_with fail
    go_ret
    exact ⟨by rw [hr.out]; rfl, Below.refl _ _⟩
set_option maxHeartbeats 4000000 in
theorem l08Query_c (l : List ByteArray) (v : Value) (w : World) (hl : SliceK strD w v l) (hok : okStrs l) : Calls Try.prog 50 #[v] w fun e w' => e = .returned (.bool (queryB l)) ∧ Below w.heap.size w w' := by
  obtain ⟨A, c, rfl, hlc, hmx, hra⟩ := hl
  have HA := hide hra
  have HOK := hide hok
  clear hra hok
  by_cases h0 : (l.length : Int) < 1
  · have hr := hide (show queryB l = false by simp only [queryB, decide_eq_false (show ¬ 1 ≤ (l.length : Int) by omega), Bool.false_and])
    go_enter Try.func50, Try.ntmps50
    go_wp2_with fail
    go_ret
    exact ⟨by rw [hr.out]; rfl, Below.refl _ _⟩
  by_cases h1 : 8 < (l.length : Int)
  · have hr := hide (show queryB l = false by simp only [queryB, decide_eq_false (show ¬ (l.length : Int) ≤ 8 by omega), Bool.and_false, Bool.false_and])
    go_enter Try.func50, Try.ntmps50
    go_wp2_with fail
    go_ret
    exact ⟨by rw [hr.out]; rfl, Below.refl _ _⟩
  have HQ := hide (show queryB l = l.all wordB by simp only [queryB, decide_eq_true (show 1 ≤ (l.length : Int) by omega), decide_eq_true (show (l.length : Int) ≤ 8 by omega), Bool.true_and])
  go_enter Try.func50, Try.ntmps50
  go_wp2_with fail
  go_loopg [3] l.length (fun gg s3 wr => ∃ k : Nat, k ≤ l.length ∧ l.length - k ≤ gg ∧ s3 = .int .i64 k ∧ Hid (∀ j y, j < k → l[j]? = some y → wordB y = true) ∧ Hid (Below w.heap.size w wr))
  case atStart => exact ⟨0, Nat.zero_le _, by omega, rfl, hide (by intro j y hj; omega), Below.refl _ _⟩
  case round =>
    obtain ⟨k, hk, hg, rfl, HT, HB⟩ := hrel
    by_cases hlt : k < l.length
    · obtain ⟨m, hx⟩ : ∃ m, l[k]? = some m := ⟨_, List.getElem?_eq_getElem hlt⟩
      rcases HA.out with hnil | ⟨q, o2, rfl, hra⟩
      · rw [hnil] at hlt; simp at hlt
      obtain ⟨hq, hc0⟩ := str_at hra HB.out hx
      have HMS := hide (HOK.out m (List.mem_of_getElem? hx))
      have HX := hide hx
      have hlt2 : (k : Int) < (l.length : Int) := by omega
      clear hx hra HA
      by_cases hpm : wordB m = true
      · have HPM := hide hpm
        clear hpm
        go_wp2_with (
          go_at_call 108
          refine (l08Word_c m _ HMS.out).mono ?_
          rintro e w1 ⟨rfl, hb⟩
          rw [HPM.out]
          have HN := hide (HB.out.trans (hb.mono HB.out.size))
          clear hb)
        go_roundg (l.length - (k + 1))
        case measure => omega
        case rel =>
          refine ⟨k + 1, by omega, by omega, by go_num, hide (fun j y hj hy => ?_), HN⟩
          by_cases e : j = k
          · subst e; rw [HX.out] at hy; cases hy; exact HPM.out
          · exact HT.out j y (by omega) hy
      · have HPM := hide (show wordB m = false by simpa using hpm)
        have hr := hide (show queryB l = false by
          rw [HQ.out, List.all_eq_false]; exact ⟨m, List.mem_of_getElem? HX.out, by simpa using hpm⟩)
        clear hpm
        go_wp2_with (
          go_at_call 108
          refine (l08Word_c m _ HMS.out).mono ?_
          rintro e w1 ⟨rfl, hb⟩
          rw [HPM.out]
          have HN := hide (HB.out.trans (hb.mono HB.out.size))
          clear hb)
        go_ret
        exact ⟨by rw [hr.out]; rfl, HN.out⟩
    · obtain rfl : k = l.length := by omega
      have hr := hide (show queryB l = true by
        rw [HQ.out, List.all_eq_true]
        intro x hx
        obtain ⟨j, hj, rfl⟩ := List.mem_iff_getElem.1 hx
        exact HT.out j _ hj (List.getElem?_eq_getElem hj))
      clear HA
      go_wp2_with fail
      go_ret
      exact ⟨by rw [hr.out]; rfl, HB.out⟩
set_option maxHeartbeats 4000000 in
theorem indexStr_c (ms : List ByteArray) (t : ByteArray) (v : Value) (w : World) (hm : SliceK strD w v ms) :
    Calls Try.prog 154 #[v, .string t] w fun e w' => e = .returned (.int .i64 (idxP (strIs t) ms)) ∧ w = w' := by
  obtain ⟨A, c, rfl, hl, hmx, hra⟩ := hm
  have HA := hide hra
  clear hra
  go_enter Try.func154, Try.ntmps154
  go_wp2_with fail
  go_loopg [8] ms.length (fun gg s8 wr => ∃ k : Nat, k ≤ ms.length ∧ ms.length - k ≤ gg ∧ s8 = .int .i64 k ∧ Hid (∀ j y, j < k → ms[j]? = some y → strIs t y = false) ∧ wr = w)
  case atStart => exact ⟨0, Nat.zero_le _, by omega, rfl, hide (by intro j y hj; omega), rfl⟩
  case round =>
    obtain ⟨k, hk, hg, rfl, HT, rfl⟩ := hrel
    by_cases hlt : k < ms.length
    · obtain ⟨m, hx⟩ : ∃ m, ms[k]? = some m := ⟨_, List.getElem?_eq_getElem hlt⟩
      rcases HA.out with hnil | ⟨q, o2, rfl, hra⟩
      · rw [hnil] at hlt; simp at hlt
      obtain ⟨hq, hc0⟩ := str_at hra (Below.refl _ _) hx
      have HX := hide hx
      have hlt2 : (k : Int) < (ms.length : Int) := by omega
      clear hx hra
      by_cases hpm : (t.toList == m.toList) = true
      · have HPM := hide (show strIs t m = true by unfold strIs; rw [beq_iff_eq] at hpm ⊢; exact hpm.symm)
        go_wp2_with fail
        go_ret
        exact ⟨by rw [idxP_hit HT.out HX.out HPM.out]; rfl, rfl⟩
      · have hpm : (t.toList == m.toList) = false := by simpa using hpm
        have HPM := hide (show strIs t m = false by unfold strIs; rw [beq_eq_false_iff_ne] at hpm ⊢; exact hpm.symm)
        go_wp2_with fail
        go_roundg (ms.length - (k + 1))
        case measure => omega
        case rel => exact ⟨k + 1, by omega, by omega, by go_num, hide (idxP_step HT.out HX.out HPM.out), rfl⟩
    · have : k = ms.length := by omega
      subst this
      have hr := hide (idxP_miss HT.out)
      clear HA
      go_wp2_with fail
      go_ret
      exact ⟨by rw [hr.out]; rfl, rfl⟩
theorem containsStr_c (ms : List ByteArray) (t : ByteArray) (v : Value) (w : World) (hm : SliceK strD w v ms) :
    Calls Try.prog 127 #[v, .string t] w fun e w' => e = .returned (.bool (hasS ms t)) ∧ w = w' := by
  obtain ⟨A, c, rfl⟩ := hm.shape
  have HM := hide hm
  clear hm
  go_enter Try.func127, Try.ntmps127
  go_wp2_with (go_at_call 154; refine (indexStr_c ms t _ _ HM.out).mono ?_; rintro e w' ⟨rfl, rfl⟩)
  go_ret
  exact ⟨rfl, rfl⟩
set_option maxHeartbeats 4000000 in
theorem l06Has_c (ms : List ByteArray) (t : ByteArray) (v : Value) (w : World) (hm : SliceK strD w v ms) :
    Calls Try.prog 122 #[v, .string t] w fun e w' => e = .returned (.bool (hasS ms t)) ∧ w = w' := by
  obtain ⟨A, c, rfl, hl, hmx, hra⟩ := hm
  have HA := hide hra
  clear hra
  go_enter Try.func122, Try.ntmps122
  go_wp2_with fail
  go_loopg [5] ms.length (fun gg s8 wr => ∃ k : Nat, k ≤ ms.length ∧ ms.length - k ≤ gg ∧ s8 = .int .i64 k ∧ Hid (∀ j y, j < k → ms[j]? = some y → strIs t y = false) ∧ wr = w)
  case atStart => exact ⟨0, Nat.zero_le _, by omega, rfl, hide (by intro j y hj; omega), rfl⟩
  case round =>
    obtain ⟨k, hk, hg, rfl, HT, rfl⟩ := hrel
    by_cases hlt : k < ms.length
    · obtain ⟨m, hx⟩ : ∃ m, ms[k]? = some m := ⟨_, List.getElem?_eq_getElem hlt⟩
      rcases HA.out with hnil | ⟨q, o2, rfl, hra⟩
      · rw [hnil] at hlt; simp at hlt
      obtain ⟨hq, hc0⟩ := str_at hra (Below.refl _ _) hx
      have HX := hide hx
      have hlt2 : (k : Int) < (ms.length : Int) := by omega
      clear hx hra
      by_cases hpm : (m.toList == t.toList) = true
      · have HPM := hide (show strIs t m = true from hpm)
        have hr := hide (show hasS ms t = true by unfold hasS; rw [idxP_hit HT.out HX.out HPM.out]; simp)
        go_wp2_with fail
        go_ret
        exact ⟨by rw [hr.out]; rfl, rfl⟩
      · have hpm : (m.toList == t.toList) = false := by simpa using hpm
        have HPM := hide (show strIs t m = false from hpm)
        go_wp2_with fail
        go_roundg (ms.length - (k + 1))
        case measure => omega
        case rel => exact ⟨k + 1, by omega, by omega, by go_num, hide (idxP_step HT.out HX.out HPM.out), rfl⟩
    · have : k = ms.length := by omega
      subst this
      have hr := hide (show hasS ms t = false by unfold hasS; rw [idxP_miss HT.out]; rfl)
      clear HA
      go_wp2_with fail
      go_ret
      exact ⟨by rw [hr.out]; rfl, rfl⟩
end Go.Proofs.Yticjphaagmnahaa
