/- The place of a message in a log: the program and the reference. The numbers of the messages that a test takes. -/
import Derived.Test.YticjphaagmnahaaVMsg
import Derived.Test.YticjphaagmnahaaRGround
import Derived.Shelf.Abstract
namespace Go.Proofs.Yticjphaagmnahaa
open Go Go.RowKit Go.BigFrame
attribute [local go_sem] Calm.cell Calm.frozen
set_option linter.unusedVariables false
set_option linter.unusedSimpArgs false

def msgArr (m : Message) (v7 : Value) : Array Value := #[.int .i64 m.number, .int .i64 m.sender, .int .i64 m.at_, .string m.text, .int .i64 m.edits, .bool m.gone, .int .i64 m.reply, v7]
def numIs (n : Int) (m : Message) : Bool := decide (m.number = n)

set_option maxHeartbeats 4000000 in
theorem indexMsg_c (g : Nat) (caps : Array Value) (p : Message → Bool) (ms : List Message) (v : Value) (w : World) (hm : SliceK messageD w v ms)
    (eg : ∀ args w, (callFunc g args).run Try.prog w = .ok (.enter g args) w)
    (hc : ∀ (m : Message) (v7 : Value) (W : World), Below w.heap.size w W → SliceK intD W v7 m.likes → Calls Try.prog g (#[.agg (msgArr m v7)] ++ caps) W fun e W' => e = .returned (.bool (p m)) ∧ Below W.heap.size W W') :
    Calls Try.prog 141 #[v, .func (.func g) #[] caps] w fun e w' => e = .returned (.int .i64 (idxP p ms)) ∧ Below w.heap.size w w' := by
  obtain ⟨A, c, rfl, hl, hmx, hra⟩ := hm
  have HA := hide hra
  have HC := hide hc
  clear hra hc
  go_enter Try.func141, Try.ntmps141
  go_wp2_with fail
  go_loopg [8] ms.length (fun gg s8 wr => ∃ k : Nat, k ≤ ms.length ∧ ms.length - k ≤ gg ∧ s8 = .int .i64 k ∧ Hid (∀ j y, j < k → ms[j]? = some y → p y = false) ∧ Hid (Below w.heap.size w wr))
  case atStart => exact ⟨0, Nat.zero_le _, by omega, rfl, hide (by intro j y hj; omega), Below.refl _ _⟩
  case round =>
    obtain ⟨k, hk, hg, rfl, HT, HB⟩ := hrel
    by_cases hlt : k < ms.length
    · obtain ⟨m, hx⟩ : ∃ m, ms[k]? = some m := ⟨_, List.getElem?_eq_getElem hlt⟩
      rcases HA.out with hnil | ⟨q, o2, rfl, hra⟩
      · rw [hnil] at hlt; simp at hlt
      obtain ⟨v7, h7, hq, hc0, hc1, hc2, hc3, hc4, hc5, hc6, hc7⟩ := message_at hra HB.out hx
      obtain ⟨A7, c7, rfl⟩ := h7.shape
      have HX := hide hx
      have H7 := hide h7
      have hlt2 : (k : Int) < (ms.length : Int) := by omega
      clear hx hra HA h7
      by_cases hpm : p m = true
      · have HPM := hide hpm
        clear hpm
        go_wp2_with (first
          | (go_at_fn g
             refine (HC.out m _ _ HB.out H7.out).mono ?_
             rintro e w1 ⟨rfl, hb⟩
             rw [HPM.out]
             have HN := hide (HB.out.trans (hb.mono HB.out.size))
             clear hb))
        go_ret
        exact ⟨by rw [idxP_hit HT.out HX.out HPM.out]; rfl, HN.out⟩
      · have HPM := hide (show p m = false by simpa using hpm)
        clear hpm
        go_wp2_with (first
          | (go_at_fn g
             refine (HC.out m _ _ HB.out H7.out).mono ?_
             rintro e w1 ⟨rfl, hb⟩
             rw [HPM.out]
             have HN := hide (HB.out.trans (hb.mono HB.out.size))
             clear hb))
        go_roundg (ms.length - (k + 1))
        case measure => omega
        case rel => exact ⟨k + 1, by omega, by omega, by go_num, hide (idxP_step HT.out HX.out HPM.out), HN⟩
    · have : k = ms.length := by omega
      subst this
      have hr := hide (idxP_miss HT.out)
      clear HA HC
      go_wp2_with fail
      go_ret
      exact ⟨by rw [hr.out]; rfl, HB.out⟩
end Go.Proofs.Yticjphaagmnahaa
namespace Go.Proofs.Yticjphaagmnahaa
open Go Go.RowKit Go.BigFrame
attribute [local go_sem] Calm.cell Calm.frozen
set_option linter.unusedVariables false
set_option linter.unusedSimpArgs false

theorem Made.none {α : Type} {d : Dt α} {e : TypeId} (w w' : World) : Made d e w w' (.slice none 0 0) [] := ⟨[], .inl ⟨rfl, rfl, rfl⟩, by simp, by simp⟩
/-- A returned row that was made behind w, and a Bool; nothing else has turned. -/
def RetMade2 {α : Type} (d : Dt α) (e : TypeId) (w : World) (xs : List α) (ok : Bool) (r : Ending) (w' : World) : Prop :=
  ∃ v, r = .returned (.tuple #[v, .bool ok]) ∧ Made d e w w' v xs ∧ Below w.heap.size w w'

theorem validLog_40 {l : Log} (h : validLogB l = true) : l.messages.length ≤ 40 := by
  simp only [validLogB, Bool.and_eq_true, decide_eq_true_eq] at h; omega

/-- The numbers of some messages. -/
def pickNums (p : Message → Bool) (ms : List Message) : List Int := (ms.filter p).map (·.number)
theorem pickNums_yes {p : Message → Bool} {ms : List Message} {k : Nat} {m : Message} (hx : ms[k]? = some m) (h : p m = true) : pickNums p (ms.take (k + 1)) = pickNums p (ms.take k) ++ [m.number] := by
  obtain ⟨hk, rfl⟩ := List.getElem?_eq_some_iff.1 hx
  rw [List.take_succ_eq_append_getElem hk, pickNums, List.filter_append]
  simp [pickNums, h]
theorem pickNums_no {p : Message → Bool} {ms : List Message} {k : Nat} {m : Message} (hx : ms[k]? = some m) (h : p m = false) : pickNums p (ms.take (k + 1)) = pickNums p (ms.take k) := by
  obtain ⟨hk, rfl⟩ := List.getElem?_eq_some_iff.1 hx
  rw [List.take_succ_eq_append_getElem hk, pickNums, List.filter_append]
  simp [pickNums, h]
theorem pickNums_len (p : Message → Bool) (ms : List Message) : (pickNums p ms).length ≤ ms.length := by simp [pickNums]; exact List.length_filter_le _ _

set_option maxHeartbeats 4000000 in
theorem numbers_c (g : Nat) (caps : Array Value) (p : Message → Bool) (l : Log) (b o : Nat) (w : World) (hp : RowAt logD w b o [l]) (h40 : l.messages.length ≤ 40)
    (eg : ∀ args w, (callFunc g args).run Try.prog w = .ok (.enter g args) w)
    (hc : ∀ (m : Message) (v7 : Value) (W : World), m ∈ l.messages → Below w.heap.size w W → SliceK intD W v7 m.likes → Calls Try.prog g (#[.agg (msgArr m v7)] ++ caps) W fun e W' => e = .returned (.bool (p m)) ∧ Below W.heap.size W W') :
    Calls Try.prog 78 #[.pointer (some ⟨b, o, none⟩), .func (.func g) #[] caps] w (RetMade intD 2 w (pickNums p l.messages)) := by
  obtain ⟨v1, h1, hbz, hb0, hb1⟩ := log_at hp (Below.refl _ _) (j := 0) rfl
  simp only [Nat.zero_mul, Nat.add_zero] at hb0 hb1
  obtain ⟨A, c, rfl, hl, hm, hra⟩ := h1
  have HA := hide hra
  have HC := hide hc
  clear hra hp hc
  go_enter Try.func78, Try.ntmps78
  go_wp2_with fail
  go_loopg [5, 14] l.messages.length (fun gg s5 s14 wr => ∃ k : Nat, k ≤ l.messages.length ∧ l.messages.length - k ≤ gg ∧ s14 = .int .i64 k ∧ Hid (Made intD 2 w wr s5 (pickNums p (l.messages.take k))) ∧ Hid (Below w.heap.size w wr))
  case atStart => exact ⟨0, Nat.zero_le _, by omega, rfl, hide ⟨_, emptyM _, by simp, by simp⟩, (Below.refl _ _).alloc (Nat.le_refl _) _⟩
  case round =>
    obtain ⟨k, hk, hg, rfl, HM, HB⟩ := hrel
    by_cases hlt : k < l.messages.length
    · obtain ⟨m, hx⟩ : ∃ m, l.messages[k]? = some m := ⟨_, List.getElem?_eq_getElem hlt⟩
      rcases HA.out with hnil | ⟨q, o2, rfl, hra⟩
      · rw [hnil] at hlt; simp at hlt
      obtain ⟨v7, h7, hq, hc0, hc1, hc2, hc3, hc4, hc5, hc6, hc7⟩ := message_at hra HB.out hx
      obtain ⟨A7, c7, rfl⟩ := h7.shape
      obtain ⟨F, hM, hF, hFB⟩ := HM.out
      obtain ⟨A5, c5, rfl⟩ := hM.toK.shape
      have HX := hide hx
      have H7 := hide h7
      have HM2 := hide (And.intro hM (And.intro hF hFB))
      have hlt2 : (k : Int) < (l.messages.length : Int) := by omega
      clear hx hra HA h7 hM hF hFB HM
      have hpl : (pickNums p (l.messages.take k)).length < 1048576 := by have := pickNums_len p (l.messages.take k); simp at this; omega
      by_cases hpm : p m = true
      · have HPM := hide hpm
        clear hpm
        go_wp2_with (first
          | (go_at_fn g
             refine (HC.out m _ _ (List.mem_of_getElem? HX.out) (HB.out.alloc HB.out.size _) (H7.out.below ((Below.refl _ _).alloc (Nat.le_refl _) _))).mono ?_
             rintro e w1 ⟨rfl, hb⟩
             rw [HPM.out]
             obtain ⟨iq, rfl⟩ : ∃ i : Calm _, w1 = i.world := ⟨⟨w1, hb⟩, rfl⟩
             clear hb)
          | (at_builtin
             obtain ⟨hM, hF, hFB⟩ := HM2.out
             refine wpList_app_int _ rfl _ _ _ rfl Try.underlying28 infoInt _ _ F rfl (hM.move fun b hb => (iq.boxed.alloc iq.boxed.size _).block b (hM.lt b hb)) hF _ _ m.number rfl (by simp) hpl ?_
             intro g2 cap2 w2 F2 hap
             have HAP := hide hap
             clear hap hM hF hFB))
        go_roundg (l.messages.length - (k + 1))
        case measure => omega
        case rel =>
          obtain ⟨hM, hF, hFB⟩ := HM2.out
          have hap := HAP.out
          have hz := iq.boxed.size
          have hz2 := HB.out.size
          have hge : ∀ x ∈ F2, w.heap.size ≤ x := fun x hx2 => by
            rcases hap.from_ x hx2 with h | h | h
            · exact hFB x h
            · simp at h
            · rw [h]; simp; omega
          refine ⟨k + 1, by omega, by omega, by go_num, hide ⟨F2, ?_, hap.nodup, hge⟩, hide ((HB.out.trans ((iq.boxed.alloc iq.boxed.size _).mono HB.out.size)).trans (hap.chg.below (by simp; omega) hFB))⟩
          rw [pickNums_yes HX.out HPM.out]
          have := hap.m
          rwa [show (pickNums p (l.messages.take k)).length + 1 = (pickNums p (l.messages.take k) ++ [m.number]).length by simp] at this ⊢
      · have HPM := hide (show p m = false by simpa using hpm)
        clear hpm
        go_wp2_with (first
          | (go_at_fn g
             refine (HC.out m _ _ (List.mem_of_getElem? HX.out) (HB.out.alloc HB.out.size _) (H7.out.below ((Below.refl _ _).alloc (Nat.le_refl _) _))).mono ?_
             rintro e w1 ⟨rfl, hb⟩
             rw [HPM.out]
             obtain ⟨iq, rfl⟩ : ∃ i : Calm _, w1 = i.world := ⟨⟨w1, hb⟩, rfl⟩
             clear hb))
        go_roundg (l.messages.length - (k + 1))
        case measure => omega
        case rel =>
          obtain ⟨hM, hF, hFB⟩ := HM2.out
          refine ⟨k + 1, by omega, by omega, by go_num, hide ⟨F, ?_, hF, hFB⟩, hide (HB.out.trans (iq.boxed.mono HB.out.size))⟩
          rw [pickNums_no HX.out HPM.out]
          exact hM.move fun b hb => iq.boxed.block b (hM.lt b hb)
    · have : k = l.messages.length := by omega
      subst this
      have hm2 := HM.out
      rw [List.take_length] at hm2
      obtain ⟨A5, c5, rfl⟩ := hm2.shape
      have HM2 := hide hm2
      clear HM hm2 HA HC
      go_wp2_with fail
      go_ret
      exact ⟨_, rfl, HM2.out, HB.out⟩
end Go.Proofs.Yticjphaagmnahaa
