/- A room is swept: the reference. -/
import Derived.Test.YtccgjnanphonnaaSweep
import Derived.Test.YtccgjnanphonnaaGive
import Derived.Deep.RegionLaw
namespace Go.Proofs.Ytccgjnanphonnaa
open Go Go.RowKit Go.BigFrame
set_option linter.unusedVariables false
set_option linter.unusedSimpArgs false
set_option maxHeartbeats 4000000 in
set_option maxRecDepth 100000 in
theorem specSweepRoom_c (r : Room) (a : Int) (v1 v2 v3 : Value) (w : World) (h1 : SliceK memberD w v1 r.members) (h2 : SliceK inviteD w v2 r.invites) (h3 : SliceK banD w v3 r.bans) :
    Calls Try.prog 15 #[.agg #[.bool r.open_, v1, v2, v3], .int .i64 a] w (RetElem2 roomD w (sweepV r a) (sweepOk r a)) := by
  show Calls Try.prog 15 #[.agg #[.bool r.open_, v1, v2, v3], .int .i64 a] w (RetElem2 roomD w (chR r (sweepF a)) (chOk r (sweepF a)))
  obtain ⟨A1, c1, rfl⟩ := h1.shape
  obtain ⟨A2, c2, rfl⟩ := h2.shape
  obtain ⟨A3, c3, rfl⟩ := h3.shape
  have H1 := hide h1
  have H2 := hide h2
  have H3 := hide h3
  clear h1 h2 h3
  have HS0 := hide (show St w ((w.alloc (.cells #[.bool r.open_, .slice A1 r.members.length c1, .slice A2 r.invites.length c2, .slice A3 r.bans.length c3] 32)).alloc (.cells #[.bool false, .slice none 0 0, .slice none 0 0, .slice none 0 0] 32)) [blk (w.heap.size + 1) #[.bool false, .slice none 0 0, .slice none 0 0, .slice none 0 0] 32, blk w.heap.size #[.bool r.open_, .slice A1 r.members.length c1, .slice A2 r.invites.length c2, .slice A3 r.bans.length c3] 32] from (((St.start w).alloc rfl).alloc (by simp)))
  by_cases hv : validRoomB r = true
  · have HV := hide hv
    have HFEW := hide (fewR_of hv)
    have h40 := (fewR_of hv).2.1
    have h41 := (fewR_of hv).2.2
    have h42 := (fewR_of hv).1
    have hm1 := (valid_iff.1 hv).m1
    clear hv
    by_cases ht : inB a 0 1000000 = true
    · have HT := hide ht
      clear ht
      go_enter Try.func15, Try.ntmps15
      go_wp2_with (first
        | (go_at_call 26
           refine (l02Is_c r _ _ _ (Blk.rowAt (d := roomD) (x := r) HS0.out.at1 (room_K_mk (H1.out.below HS0.out.below) (H2.out.below HS0.out.below) (H3.out.below HS0.out.below)) rfl)).mono ?_
           rintro e w1 ⟨rfl, hb⟩
           rw [HV.out]
           have HS1 := hide (HS0.out.by hb)
           (try clear x1_0 x1_1 x1_2 x1_3 xf1 xz1)
           obtain ⟨x1_0, x1_1, x1_2, x1_3⟩ := HS1.out.at0.c4
           have xf1 := HS1.out.at0.frozen
           have xz1 := HS1.out.at0.lt
           clear hb)
        | (go_at_call 44; refine (l02Tick_c _ _).mono ?_; rintro e w' ⟨rfl, rfl⟩; rw [HT.out])
        | (go_at_call 28
           refine (l02Copy_c r _ _ _ (Blk.rowAt (d := roomD) (x := r) HS1.out.at1 (room_K_mk (H1.out.below HS1.out.below) (H2.out.below HS1.out.below) (H3.out.below HS1.out.below)) rfl) HFEW.out).mono ?_
           rintro e w3 he
           obtain ⟨cs9, F9, rfl, hK, hb, hS⟩ := HS1.out.elem he
           obtain ⟨u1, u2, u3, rfl, k1, k2, k3⟩ := room_K hK
           obtain ⟨B1, e1, rfl⟩ := k1.shape
           obtain ⟨B2, e2, rfl⟩ := k2.shape
           obtain ⟨B3, e3, rfl⟩ := k3.shape
           obtain ⟨F1, F2, F3, hP⟩ := hS.roomParts
           have HPP := hide hP
           have xz1 := hS.at1.lt
           (try clear x1_0 x1_1 x1_2 x1_3 xf1)
           clear hK k1 k2 k3 hb hS he hP))
      obtain ⟨⟨q1, rfl⟩, -, hle1⟩ := St.some (d := memberD) rfl HPP.out (List.getElem?_eq_getElem (show 0 < r.members.length by omega))
      go_loopg [7] r.invites.length (fun gg s11 wr => ∃ (k : Nat) (A9i : Option Addr) (c9i : Nat) (F9i : List Nat), k ≤ r.invites.length ∧ r.invites.length - k ≤ gg ∧ s11 = .int .i64 k ∧ Hid (St w wr (own inviteD 65 (.slice A9i (dropP (oldI a) (r.invites.take k)).length c9i) (dropP (oldI a) (r.invites.take k)) F9i :: blk w3.heap.size #[.bool r.open_, .slice (some ⟨q1, 0, none⟩) r.members.length e1, .slice A9i (dropP (oldI a) (r.invites.take k)).length c9i, .slice B3 r.bans.length e3] 32 :: [own memberD 69 (.slice (some ⟨q1, 0, none⟩) r.members.length e1) r.members F1, own banD 67 (.slice B3 r.bans.length e3) r.bans F3, blk (w.heap.size + 1) #[.bool false, .slice none 0 0, .slice none 0 0, .slice none 0 0] 32, blk w.heap.size #[.bool r.open_, .slice A1 r.members.length c1, .slice A2 r.invites.length c2, .slice A3 r.bans.length c3] 32])))
      case atStart =>
        exact ⟨0, _, _, _, Nat.zero_le _, by omega, rfl, hide (St.empty (show St w _ (blk (w3.heap.size + 1) #[] 65 :: blk w3.heap.size #[.bool r.open_, .slice (some ⟨q1, 0, none⟩) r.members.length e1, .slice (some ⟨w3.heap.size + 1, 0, none⟩) 0 0, .slice B3 r.bans.length e3] 32 :: [own memberD 69 (.slice (some ⟨q1, 0, none⟩) r.members.length e1) r.members F1, own banD 67 (.slice B3 r.bans.length e3) r.bans F3, blk (w.heap.size + 1) #[.bool false, .slice none 0 0, .slice none 0 0, .slice none 0 0] 32, blk w.heap.size #[.bool r.open_, .slice A1 r.members.length c1, .slice A2 r.invites.length c2, .slice A3 r.bans.length c3] 32]) from by (repeat (first | (with_reducible exact (St.drop1 HPP.out)) | (with_reducible apply St.alloc) | (with_reducible apply St.set0) | (with_reducible apply St.set1) | (with_reducible apply St.set2) | (with_reducible apply St.set3) | (with_reducible apply St.drew) | (with_reducible apply St.drewN))); all_goals (try (first | rfl | (simp; done)))))⟩
      case round =>
        obtain ⟨k, A9i, c9i, F9i, hk, hg, rfl, HSi⟩ := hrel
        obtain ⟨x0, x1, x2, x3⟩ := HSi.out.at1.c4
        have xf := HSi.out.at1.frozen
        have xz := HSi.out.at1.lt
        obtain ⟨y0, y1, y2, y3⟩ := (St.at3 HSi.out.drop.drop).c4
        have yz := (St.at3 HSi.out.drop.drop).lt
        by_cases hlt : k < r.invites.length
        · obtain ⟨m, hx⟩ : ∃ m, r.invites[k]? = some m := ⟨_, List.getElem?_eq_getElem hlt⟩
          obtain ⟨A8, c8, hv8, hl8, hm8, hra⟩ := H2.out
          simp only [Value.slice.injEq, true_and] at hv8
          obtain ⟨rfl, rfl⟩ := hv8
          rcases hra with hnil | ⟨q, o2, rfl, hra⟩
          · rw [hnil] at hlt; simp at hlt
          obtain ⟨hq, hc0, hc1, hc2⟩ := invite_at hra HSi.out.below hx
          have HX := hide hx
          have hlt2 : (k : Int) < (r.invites.length : Int) := by omega
          have hlk := dropP_le (oldI a) (r.invites.take k)
          have hlk2 : (r.invites.take k).length ≤ k := List.length_take_le _ _
          clear hx hra
          by_cases hid : m.until_ < a
          · have HID := hide (show (oldI a) m = true by simp [oldI, hid])
            have hid2 : ¬ a ≤ m.until_ := by omega
            clear hid
            go_wp2_with fail
            go_roundg (r.invites.length - (k + 1))
            case measure => omega
            case rel => exact ⟨k + 1, A9i, c9i, F9i, by omega, by omega, by go_num, by rw [dropP_skip HX.out HID.out]; exact HSi⟩
          · have HID := hide (show (oldI a) m = false by simp [oldI]; omega)
            have hid2 : a ≤ m.until_ := by omega
            clear hid
            go_wp2_with fail
            go_region_law (
              refine step_app_st (d := inviteD) (w0 := w) rfl rfl (.tmp 37) (.tmp 43) 29 rfl (.agg #[.int .i64 0, .int .i64 0, .int .i64 0]) 24 Try.underlying29 infoInvite rfl (by omega) (by omega) (.slice A9i (dropP (oldI a) (r.invites.take k)).length c9i) (dropP (oldI a) (r.invites.take k)) F9i (by simp [Act.eval, Act.put]) wr.heap.size #[.int .i64 m.id, .int .i64 m.by_, .int .i64 m.until_] (by (repeat (first | (with_reducible exact HSi.out) | (with_reducible apply St.alloc) | (with_reducible apply St.set0) | (with_reducible apply St.set1) | (with_reducible apply St.set2) | (with_reducible apply St.set3) | (with_reducible apply St.drew) | (with_reducible apply St.drewN))); all_goals (try (first | rfl | (simp; done)))) 1 (by simp [Act.eval, Act.put]) m rfl (by omega) ?_
              intro g cap w4 F4 hS
              have HS4 := hide hS
              obtain ⟨z0, z1, z2, z3⟩ := hS.at1.c4
              have zf := hS.at1.frozen
              have zz := hS.at1.lt
              clear hS)
            all_goals
              go_wp2_with fail
              go_roundg (r.invites.length - (k + 1))
              case measure => omega
              case rel =>
                have hlen : (dropP (oldI a) (r.invites.take (k + 1))).length = (dropP (oldI a) (r.invites.take k)).length + 1 := by rw [dropP_keep HX.out HID.out]; simp
                refine ⟨k + 1, some ⟨g, 0, none⟩, cap, F4, by omega, by omega, by go_num, hide ?_⟩
                rw [hlen, dropP_keep HX.out HID.out]
                (repeat (first | (with_reducible exact HS4.out) | (with_reducible apply St.alloc) | (with_reducible apply St.set0) | (with_reducible apply St.set1) | (with_reducible apply St.set2) | (with_reducible apply St.set3) | (with_reducible apply St.drew) | (with_reducible apply St.drewN))); all_goals (try (first | rfl | (simp; done)))
        · obtain rfl : k = r.invites.length := by omega
          rw [List.take_length] at HSi x2
          clear hlt hk hg
          obtain ⟨wri, rfl⟩ : ∃ V : World, V = wr := ⟨_, rfl⟩
          go_wp2_with fail
          go_loopg [8] r.bans.length (fun gg s11 wr => ∃ (k : Nat) (A9b : Option Addr) (c9b : Nat) (F9b : List Nat), k ≤ r.bans.length ∧ r.bans.length - k ≤ gg ∧ s11 = .int .i64 k ∧ Hid (St w wr (own banD 67 (.slice A9b (dropP (oldB a) (r.bans.take k)).length c9b) (dropP (oldB a) (r.bans.take k)) F9b :: blk w3.heap.size #[.bool r.open_, .slice (some ⟨q1, 0, none⟩) r.members.length e1, .slice A9i (dropP (oldI a) r.invites).length c9i, .slice A9b (dropP (oldB a) (r.bans.take k)).length c9b] 32 :: [own memberD 69 (.slice (some ⟨q1, 0, none⟩) r.members.length e1) r.members F1, own inviteD 65 (.slice A9i (dropP (oldI a) r.invites).length c9i) (dropP (oldI a) r.invites) F9i, blk (w.heap.size + 1) #[.bool false, .slice none 0 0, .slice none 0 0, .slice none 0 0] 32, blk w.heap.size #[.bool r.open_, .slice A1 r.members.length c1, .slice A2 r.invites.length c2, .slice A3 r.bans.length c3] 32])))
          case atStart =>
            exact ⟨0, _, _, _, Nat.zero_le _, by omega, rfl, hide (St.empty (show St w _ (blk wri.heap.size #[] 67 :: blk w3.heap.size #[.bool r.open_, .slice (some ⟨q1, 0, none⟩) r.members.length e1, .slice A9i (dropP (oldI a) r.invites).length c9i, .slice (some ⟨wri.heap.size, 0, none⟩) 0 0] 32 :: [own memberD 69 (.slice (some ⟨q1, 0, none⟩) r.members.length e1) r.members F1, own inviteD 65 (.slice A9i (dropP (oldI a) r.invites).length c9i) (dropP (oldI a) r.invites) F9i, blk (w.heap.size + 1) #[.bool false, .slice none 0 0, .slice none 0 0, .slice none 0 0] 32, blk w.heap.size #[.bool r.open_, .slice A1 r.members.length c1, .slice A2 r.invites.length c2, .slice A3 r.bans.length c3] 32]) from by (repeat (first | (with_reducible exact (St.drop3 HSi.out).push2) | (with_reducible apply St.alloc) | (with_reducible apply St.set0) | (with_reducible apply St.set1) | (with_reducible apply St.set2) | (with_reducible apply St.set3) | (with_reducible apply St.drew) | (with_reducible apply St.drewN))); all_goals (try (first | rfl | (simp; done)))))⟩
          case round =>
            obtain ⟨k, A9b, c9b, F9b, hk, hg, rfl, HSb⟩ := hrel
            obtain ⟨x0, x1, x2, x3⟩ := HSb.out.at1.c4
            have xf := HSb.out.at1.frozen
            have xz := HSb.out.at1.lt
            obtain ⟨y0, y1, y2, y3⟩ := (St.at3 HSb.out.drop.drop).c4
            have yz := (St.at3 HSb.out.drop.drop).lt
            by_cases hlt : k < r.bans.length
            · obtain ⟨m, hx⟩ : ∃ m, r.bans[k]? = some m := ⟨_, List.getElem?_eq_getElem hlt⟩
              obtain ⟨A8, c8, hv8, hl8, hm8, hra⟩ := H3.out
              simp only [Value.slice.injEq, true_and] at hv8
              obtain ⟨rfl, rfl⟩ := hv8
              rcases hra with hnil | ⟨q, o2, rfl, hra⟩
              · rw [hnil] at hlt; simp at hlt
              obtain ⟨hq, hc0, hc1⟩ := ban_at hra HSb.out.below hx
              have HX := hide hx
              have hlt2 : (k : Int) < (r.bans.length : Int) := by omega
              have hlk := dropP_le (oldB a) (r.bans.take k)
              have hlk2 : (r.bans.take k).length ≤ k := List.length_take_le _ _
              clear hx hra
              by_cases hid : m.until_ < a
              · have HID := hide (show (oldB a) m = true by simp [oldB, hid])
                have hid2 : ¬ a ≤ m.until_ := by omega
                clear hid
                go_wp2_with fail
                go_roundg (r.bans.length - (k + 1))
                case measure => omega
                case rel => exact ⟨k + 1, A9b, c9b, F9b, by omega, by omega, by go_num, by rw [dropP_skip HX.out HID.out]; exact HSb⟩
              · have HID := hide (show (oldB a) m = false by simp [oldB]; omega)
                have hid2 : a ≤ m.until_ := by omega
                clear hid
                go_wp2_with fail
                go_region_law (
                  refine step_app_st (d := banD) (w0 := w) rfl rfl (.tmp 64) (.tmp 70) 30 rfl (.agg #[.int .i64 0, .int .i64 0]) 16 Try.underlying30 infoBan rfl (by omega) (by omega) (.slice A9b (dropP (oldB a) (r.bans.take k)).length c9b) (dropP (oldB a) (r.bans.take k)) F9b (by simp [Act.eval, Act.put]) wr.heap.size #[.int .i64 m.id, .int .i64 m.until_] (by (repeat (first | (with_reducible exact HSb.out) | (with_reducible apply St.alloc) | (with_reducible apply St.set0) | (with_reducible apply St.set1) | (with_reducible apply St.set2) | (with_reducible apply St.set3) | (with_reducible apply St.drew) | (with_reducible apply St.drewN))); all_goals (try (first | rfl | (simp; done)))) 1 (by simp [Act.eval, Act.put]) m rfl (by omega) ?_
                  intro g cap w4 F4 hS
                  have HS4 := hide hS
                  obtain ⟨z0, z1, z2, z3⟩ := hS.at1.c4
                  have zf := hS.at1.frozen
                  have zz := hS.at1.lt
                  clear hS)
                all_goals
                  go_wp2_with fail
                  go_roundg (r.bans.length - (k + 1))
                  case measure => omega
                  case rel =>
                    have hlen : (dropP (oldB a) (r.bans.take (k + 1))).length = (dropP (oldB a) (r.bans.take k)).length + 1 := by rw [dropP_keep HX.out HID.out]; simp
                    refine ⟨k + 1, some ⟨g, 0, none⟩, cap, F4, by omega, by omega, by go_num, hide ?_⟩
                    rw [hlen, dropP_keep HX.out HID.out]
                    (repeat (first | (with_reducible exact HS4.out) | (with_reducible apply St.alloc) | (with_reducible apply St.set0) | (with_reducible apply St.set1) | (with_reducible apply St.set2) | (with_reducible apply St.set3) | (with_reducible apply St.drew) | (with_reducible apply St.drewN))); all_goals (try (first | rfl | (simp; done)))
            · obtain rfl : k = r.bans.length := by omega
              rw [List.take_length] at HSb x3
              clear hlt hk hg
              obtain ⟨wrb, rfl⟩ : ∃ V : World, V = wr := ⟨_, rfl⟩
              go_wp2_with fail
              go_loopg [9] r.members.length (fun gg s9 wrm => ∃ k : Nat, k ≤ r.members.length ∧ r.members.length - k ≤ gg ∧ s9 = .int .i64 k ∧ Hid (St w wrm (blk w3.heap.size #[.bool r.open_, .slice (some ⟨q1, 0, none⟩) r.members.length e1, .slice A9i (dropP (oldI a) r.invites).length c9i, .slice A9b (dropP (oldB a) r.bans).length c9b] 32 :: own memberD 69 (.slice (some ⟨q1, 0, none⟩) r.members.length e1) (swAt a r.members k) F1 :: own inviteD 65 (.slice A9i (dropP (oldI a) r.invites).length c9i) (dropP (oldI a) r.invites) F9i :: own banD 67 (.slice A9b (dropP (oldB a) r.bans).length c9b) (dropP (oldB a) r.bans) F9b :: [blk (w.heap.size + 1) #[.bool false, .slice none 0 0, .slice none 0 0, .slice none 0 0] 32, blk w.heap.size #[.bool r.open_, .slice A1 r.members.length c1, .slice A2 r.invites.length c2, .slice A3 r.bans.length c3] 32])))
              case atStart =>
                refine ⟨0, Nat.zero_le _, by omega, rfl, hide ?_⟩
                rw [swAt_zero]
                exact St.push3 HSb.out
              case round =>
                obtain ⟨k, hk, hg, rfl, HSm⟩ := hrel
                obtain ⟨z0, z1, z2, z3⟩ := HSm.out.at0.c4
                have zz := HSm.out.at0.lt
                by_cases hlt : k < r.members.length
                · obtain ⟨m, hx⟩ : ∃ m, r.members[k]? = some m := ⟨_, List.getElem?_eq_getElem hlt⟩
                  obtain ⟨hcw, hfw, hzw⟩ := St.flatCell (d := memberD) (xs := swAt a r.members k) rfl (by rw [swAt_len]; exact HSm.out.pull1) (swAt_get hx)
                  have d3 := hcw 3 _ rfl
                  have HX := hide hx
                  have hlt2 : (k : Int) < (r.members.length : Int) := by omega
                  obtain ⟨hq1, hq2⟩ := St.apart (d := memberD) rfl HSm.out
                  clear hx hcw
                  by_cases hqu : m.quiet ≤ a
                  · have HM := hide (show swM a m = { m with quiet := 0 } by simp [swM, hqu])
                    go_wp2_with fail
                    go_roundg (r.members.length - (k + 1))
                    case measure => omega
                    case rel =>
                      refine ⟨k + 1, by omega, by omega, by go_num, hide ?_⟩
                      rw [← swAt_set HX.out, HM.out]
                      have h9 := St.setFlat (d := memberD) (x' := { m with quiet := 0 }) (j := 3) (u := .int .i64 0) (xs := swAt a r.members k) rfl (by rw [swAt_len]; exact St.pull1 HSm.out) (swAt_get HX.out) (by omega) rfl rfl
                      rw [swAt_len] at h9
                      exact St.pull1 h9
                  · have HM := hide (show swM a m = m by simp [swM, hqu])
                    go_wp2_with fail
                    go_roundg (r.members.length - (k + 1))
                    case measure => omega
                    case rel =>
                      refine ⟨k + 1, by omega, by omega, by go_num, hide ?_⟩
                      rw [← swAt_same HX.out HM.out]
                      exact HSm.out
                · obtain rfl : k = r.members.length := by omega
                  have h9 := HSm.out
                  rw [swAt_all] at h9
                  have HS9 := hide h9
                  clear h9 hlt
                  obtain ⟨z0, z1, z2, z3⟩ := (St.at3 HS9.out.drop).c4
                  have zf := (St.at3 HS9.out.drop).frozen
                  have zz2 := (St.at3 HS9.out.drop).lt
                  have HOK := hide (show chOk r (sweepF a) = true by
                    simp only [chOk, sweepF]
                    rw [HV.out, HT.out, sweep_valid HV.out]; rfl)
                  have HV9 := hide (show chR r (sweepF a) = sweepR a r from chR_yes HOK.out)
                  go_wp2_with fail
                  refine bodyPost_ret (v := .tuple #[.agg #[.bool r.open_, .slice (some ⟨q1, 0, none⟩) r.members.length e1, .slice A9i (dropP (oldI a) r.invites).length c9i, .slice A9b (dropP (oldB a) r.bans).length c9b], .bool true]) (by simp [results, Try.results15, go_sem, z0, z1, z2, z3, zf, zz2]) rfl ?_
                  rw [HV9.out, HOK.out]
                  exact St.ret2 (cs := [.bool r.open_, .slice (some ⟨q1, 0, none⟩) r.members.length e1, .slice A9i (dropP (oldI a) r.invites).length c9i, .slice A9b (dropP (oldB a) r.bans).length c9b]) (F := F1 ++ (F9i ++ F9b)) (St.room2 (x := sweepR a r) (by (repeat (first | (with_reducible exact (St.drop HS9.out)) | (with_reducible apply St.alloc) | (with_reducible apply St.set0) | (with_reducible apply St.set1) | (with_reducible apply St.set2) | (with_reducible apply St.set3) | (with_reducible apply St.drew) | (with_reducible apply St.drewN))); all_goals (try (first | rfl | (simp; done))))) rfl
    · have HT := hide (show inB a 0 1000000 = false by simpa using ht)
      have HOK := hide (show chOk r (sweepF a) = false by simp [chOk, sweepF, HT.out])
      clear ht
      go_enter Try.func15, Try.ntmps15
      go_wp2_with (first
        | (go_at_call 26
           refine (l02Is_c r _ _ _ (Blk.rowAt (d := roomD) (x := r) HS0.out.at1 (room_K_mk (H1.out.below HS0.out.below) (H2.out.below HS0.out.below) (H3.out.below HS0.out.below)) rfl)).mono ?_
           rintro e w1 ⟨rfl, hb⟩
           rw [HV.out]
           have HS1 := hide (HS0.out.by hb)
           (try clear x1_0 x1_1 x1_2 x1_3 xf1 xz1)
           obtain ⟨x1_0, x1_1, x1_2, x1_3⟩ := HS1.out.at0.c4
           have xf1 := HS1.out.at0.frozen
           have xz1 := HS1.out.at0.lt
           clear hb)
        | (go_at_call 44; refine (l02Tick_c _ _).mono ?_; rintro e w' ⟨rfl, rfl⟩; rw [HT.out]))
      refine bodyPost_ret (v := .tuple #[.agg #[.bool false, .slice none 0 0, .slice none 0 0, .slice none 0 0], .bool false]) (by simp [results, Try.results15, go_sem, x1_0, x1_1, x1_2, x1_3, xf1, xz1]) rfl ?_
      rw [chR_no HOK.out, HOK.out]
      exact St.ret2 (cs := [.bool false, .slice none 0 0, .slice none 0 0, .slice none 0 0]) (F := []) (St.noRoom (by (repeat (first | (with_reducible exact HS1.out) | (with_reducible apply St.alloc) | (with_reducible apply St.set0) | (with_reducible apply St.set1) | (with_reducible apply St.set2) | (with_reducible apply St.set3) | (with_reducible apply St.drew) | (with_reducible apply St.drewN))); all_goals (try (first | rfl | (simp; done))))) rfl
  · have HV := hide (show validRoomB r = false by simpa using hv)
    have HOK := hide (show chOk r (sweepF a) = false by simp [chOk, HV.out])
    clear hv
    go_enter Try.func15, Try.ntmps15
    go_wp2_with (
      (go_at_call 26
       refine (l02Is_c r _ _ _ (Blk.rowAt (d := roomD) (x := r) HS0.out.at1 (room_K_mk (H1.out.below HS0.out.below) (H2.out.below HS0.out.below) (H3.out.below HS0.out.below)) rfl)).mono ?_
       rintro e w1 ⟨rfl, hb⟩
       rw [HV.out]
       have HS1 := hide (HS0.out.by hb)
       (try clear x1_0 x1_1 x1_2 x1_3 xf1 xz1)
       obtain ⟨x1_0, x1_1, x1_2, x1_3⟩ := HS1.out.at0.c4
       have xf1 := HS1.out.at0.frozen
       have xz1 := HS1.out.at0.lt
       clear hb))
    refine bodyPost_ret (v := .tuple #[.agg #[.bool false, .slice none 0 0, .slice none 0 0, .slice none 0 0], .bool false]) (by simp [results, Try.results15, go_sem, x1_0, x1_1, x1_2, x1_3, xf1, xz1]) rfl ?_
    rw [chR_no HOK.out, HOK.out]
    exact St.ret2 (cs := [.bool false, .slice none 0 0, .slice none 0 0, .slice none 0 0]) (F := []) (St.noRoom (by (repeat (first | (with_reducible exact HS1.out) | (with_reducible apply St.alloc) | (with_reducible apply St.set0) | (with_reducible apply St.set1) | (with_reducible apply St.set2) | (with_reducible apply St.set3) | (with_reducible apply St.drew) | (with_reducible apply St.drewN))); all_goals (try (first | rfl | (simp; done))))) rfl
end Go.Proofs.Ytccgjnanphonnaa
