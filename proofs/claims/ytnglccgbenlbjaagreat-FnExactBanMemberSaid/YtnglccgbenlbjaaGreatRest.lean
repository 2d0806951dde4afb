/- Ranks: the reference. -/
import Derived.Test.YtnglccgbenlbjaaGreatRanks
import Derived.Test.YtnglccgbenlbjaaGreatL02Copy
import Derived.Test.YtnglccgbenlbjaaGreatChanged
namespace Go.Proofs.YtnglccgbenlbjaaGreat
open Go Go.RowKit Go.BigFrame
set_option linter.unusedVariables false
set_option linter.unusedSimpArgs false
set_option maxHeartbeats 4000000 in
theorem l02Rest_c (l : List Member) (v : Value) (id : Int) (w : World) (hl : SliceK memberD w v l) (h40 : l.length ≤ 1000) :
    Calls Tryz.prog 53 #[v, .int .i64 id] w (RetMade memberD 54 w (dropP (idIs id) l)) := by
  obtain ⟨A, c, rfl, hlc, hmx, hra⟩ := hl
  have HA := hide hra
  clear hra
  go_enter Tryz.func53, Tryz.ntmps53
  go_wp2_with fail
  go_loopg [5, 6] l.length (fun gg s5 s6 wr => ∃ (k : Nat) (A9 : Option Addr) (c9 : Nat) (F9 : List Nat), k ≤ l.length ∧ l.length - k ≤ gg ∧ s5 = .slice A9 (dropP (idIs id) (l.take k)).length c9 ∧ s6 = .int .i64 k ∧ Hid (St w wr (own memberD 54 (.slice A9 (dropP (idIs id) (l.take k)).length c9) (dropP (idIs id) (l.take k)) F9 :: [])))
  case atStart => exact ⟨0, _, _, _, Nat.zero_le _, by omega, rfl, rfl, hide (St.empty ((St.start w).alloc rfl))⟩
  case round =>
    obtain ⟨k, A9, c9, F9, hk, hg, rfl, rfl, HS⟩ := hrel
    by_cases hlt : k < l.length
    · obtain ⟨m, hx⟩ : ∃ m, l[k]? = some m := ⟨_, List.getElem?_eq_getElem hlt⟩
      rcases HA.out with hnil | ⟨q, o2, rfl, hra⟩
      · rw [hnil] at hlt; simp at hlt
      obtain ⟨hq, hc0, hc1, hc2, hc3⟩ := member_at hra HS.out.below hx
      have HX := hide hx
      have hlt2 : (k : Int) < (l.length : Int) := by omega
      have hlk := dropP_le (idIs id) (l.take k)
      have hlk2 : (l.take k).length ≤ k := List.length_take_le _ _
      clear hx hra HA
      by_cases hid : m.id = id
      · have HID := hide (show idIs id m = true by simp [idIs, hid])
        have hne1 : (m.id != id) = false := by simp [hid]
        clear hid
        go_wp2_with fail
        go_roundg (l.length - (k + 1))
        case measure => omega
        case rel => exact ⟨k + 1, A9, c9, F9, by omega, by omega, by rw [dropP_skip HX.out HID.out], by go_num, by rw [dropP_skip HX.out HID.out]; exact HS⟩
      · have HID := hide (show idIs id m = false by simp [idIs, hid])
        have hne1 : (m.id != id) = true := by simp [hid]
        clear hid
        go_wp2_with (
          at_builtin
          refine wpList_app1_st (d := memberD) (w0 := w) rfl _ rfl _ _ _ rfl (.agg #[.int .i64 0, .int .i64 0, .int .i64 0, .int .i64 0]) 32 Tryz.underlying28 infoMember rfl (by omega) (by omega) (.slice A9 (dropP (idIs id) (l.take k)).length c9) (dropP (idIs id) (l.take k)) F9 rfl wr.heap.size #[.int .i64 m.id, .int .i64 m.role, .int .i64 m.since, .int .i64 m.quiet] (by (repeat (first | (with_reducible exact HS.out) | (with_reducible apply St.alloc) | (with_reducible apply St.set0) | (with_reducible apply St.set1) | (with_reducible apply St.set2) | (with_reducible apply St.set3) | (with_reducible apply St.drew) | (with_reducible apply St.drewN))); all_goals (try (first | rfl | (simp; done)))) 1 rfl m rfl (by omega) ?_
          intro g cap w4 F4 hS
          have HS4 := hide hS
          clear hS)
        go_roundg (l.length - (k + 1))
        case measure => omega
        case rel =>
          have hlen : (dropP (idIs id) (l.take (k + 1))).length = (dropP (idIs id) (l.take k)).length + 1 := by rw [dropP_keep HX.out HID.out]; simp
          refine ⟨k + 1, some ⟨g, 0, none⟩, cap, F4, by omega, by omega, by rw [hlen], by go_num, hide ?_⟩
          rw [hlen, dropP_keep HX.out HID.out]
          exact HS4.out
    · obtain rfl : k = l.length := by omega
      rw [List.take_length] at HS ⊢
      clear HA
      go_wp2_with fail
      go_ret
      exact ⟨_, rfl, ⟨F9, HS.out.head, HS.out.headN, HS.out.headG⟩, HS.out.below⟩
set_option maxHeartbeats 4000000 in
theorem l02Without_c (l : List Invite) (v : Value) (id : Int) (w : World) (hl : SliceK inviteD w v l) (h40 : l.length ≤ 1000) :
    Calls Tryz.prog 27 #[v, .int .i64 id] w (RetMade inviteD 49 w (dropP (invIs id) l)) := by
  obtain ⟨A, c, rfl, hlc, hmx, hra⟩ := hl
  have HA := hide hra
  clear hra
  go_enter Tryz.func27, Tryz.ntmps27
  go_wp2_with fail
  go_loopg [5, 6] l.length (fun gg s5 s6 wr => ∃ (k : Nat) (A9 : Option Addr) (c9 : Nat) (F9 : List Nat), k ≤ l.length ∧ l.length - k ≤ gg ∧ s5 = .slice A9 (dropP (invIs id) (l.take k)).length c9 ∧ s6 = .int .i64 k ∧ Hid (St w wr (own inviteD 49 (.slice A9 (dropP (invIs id) (l.take k)).length c9) (dropP (invIs id) (l.take k)) F9 :: [])))
  case atStart => exact ⟨0, _, _, _, Nat.zero_le _, by omega, rfl, rfl, hide (St.empty ((St.start w).alloc rfl))⟩
  case round =>
    obtain ⟨k, A9, c9, F9, hk, hg, rfl, rfl, HS⟩ := hrel
    by_cases hlt : k < l.length
    · obtain ⟨m, hx⟩ : ∃ m, l[k]? = some m := ⟨_, List.getElem?_eq_getElem hlt⟩
      rcases HA.out with hnil | ⟨q, o2, rfl, hra⟩
      · rw [hnil] at hlt; simp at hlt
      obtain ⟨hq, hc0, hc1, hc2⟩ := invite_at hra HS.out.below hx
      have HX := hide hx
      have hlt2 : (k : Int) < (l.length : Int) := by omega
      have hlk := dropP_le (invIs id) (l.take k)
      have hlk2 : (l.take k).length ≤ k := List.length_take_le _ _
      clear hx hra HA
      by_cases hid : m.id = id
      · have HID := hide (show invIs id m = true by simp [invIs, hid])
        have hne1 : (m.id != id) = false := by simp [hid]
        clear hid
        go_wp2_with fail
        go_roundg (l.length - (k + 1))
        case measure => omega
        case rel => exact ⟨k + 1, A9, c9, F9, by omega, by omega, by rw [dropP_skip HX.out HID.out], by go_num, by rw [dropP_skip HX.out HID.out]; exact HS⟩
      · have HID := hide (show invIs id m = false by simp [invIs, hid])
        have hne1 : (m.id != id) = true := by simp [hid]
        clear hid
        go_wp2_with (
          at_builtin
          refine wpList_app1_st (d := inviteD) (w0 := w) rfl _ rfl _ _ _ rfl (.agg #[.int .i64 0, .int .i64 0, .int .i64 0]) 24 Tryz.underlying29 infoInvite rfl (by omega) (by omega) (.slice A9 (dropP (invIs id) (l.take k)).length c9) (dropP (invIs id) (l.take k)) F9 rfl wr.heap.size #[.int .i64 m.id, .int .i64 m.by_, .int .i64 m.until_] (by (repeat (first | (with_reducible exact HS.out) | (with_reducible apply St.alloc) | (with_reducible apply St.set0) | (with_reducible apply St.set1) | (with_reducible apply St.set2) | (with_reducible apply St.set3) | (with_reducible apply St.drew) | (with_reducible apply St.drewN))); all_goals (try (first | rfl | (simp; done)))) 1 rfl m rfl (by omega) ?_
          intro g cap w4 F4 hS
          have HS4 := hide hS
          clear hS)
        go_roundg (l.length - (k + 1))
        case measure => omega
        case rel =>
          have hlen : (dropP (invIs id) (l.take (k + 1))).length = (dropP (invIs id) (l.take k)).length + 1 := by rw [dropP_keep HX.out HID.out]; simp
          refine ⟨k + 1, some ⟨g, 0, none⟩, cap, F4, by omega, by omega, by rw [hlen], by go_num, hide ?_⟩
          rw [hlen, dropP_keep HX.out HID.out]
          exact HS4.out
    · obtain rfl : k = l.length := by omega
      rw [List.take_length] at HS ⊢
      clear HA
      go_wp2_with fail
      go_ret
      exact ⟨_, rfl, ⟨F9, HS.out.head, HS.out.headN, HS.out.headG⟩, HS.out.below⟩
end Go.Proofs.YtnglccgbenlbjaaGreat
