/- A ban is lifted: the reference. -/
import Derived.Test.YtccgjnanphonnaaLift
import Derived.Test.YtccgjnanphonnaaGive
import Derived.Deep.RegionLaw
namespace Go.Proofs.Ytccgjnanphonnaa
open Go Go.RowKit Go.BigFrame
set_option linter.unusedVariables false
set_option linter.unusedSimpArgs false
theorem dropP_keep {α : Type} {p : α → Bool} {xs : List α} {k : Nat} {x : α} (hx : xs[k]? = some x) (h : p x = false) : dropP p (xs.take (k + 1)) = dropP p (xs.take k) ++ [x] := by
  obtain ⟨hk, rfl⟩ := List.getElem?_eq_some_iff.1 hx
  unfold dropP; rw [List.take_succ_eq_append_getElem hk, List.filter_append]; simp [h]
theorem dropP_skip {α : Type} {p : α → Bool} {xs : List α} {k : Nat} {x : α} (hx : xs[k]? = some x) (h : p x = true) : dropP p (xs.take (k + 1)) = dropP p (xs.take k) := by
  obtain ⟨hk, rfl⟩ := List.getElem?_eq_some_iff.1 hx
  unfold dropP; rw [List.take_succ_eq_append_getElem hk, List.filter_append]; simp [h]
theorem dropP_le {α : Type} (p : α → Bool) (xs : List α) : (dropP p xs).length ≤ xs.length := List.length_filter_le _ _
theorem hasId_of {r : Room} {n : Int} (h : hasId r n = false) : dropP (idIs n) r.members = r.members := dropP_none (by unfold hasId at h; simpa using h)
theorem invd_of {r : Room} {n : Int} (h : invd r n = false) : dropP (invIs n) r.invites = r.invites := dropP_none (by unfold invd at h; simpa using h)
theorem lift_eq {r : Room} {n : Int} (hv : validRoomB r = true) (hb : bannd r n = true) : withoutR r n = { r with bans := dropP (banIs n) r.bans } := by
  have hV := valid_iff.1 hv
  unfold bannd at hb
  obtain ⟨k, b, _, _, hx, hp⟩ := idxP_found (of_decide_eq_true hb)
  have h1 := hV.bok b (List.mem_of_getElem? hx)
  have e : b.id = n := by simpa [banIs] using hp
  simp only [banOkB, Bool.and_eq_true, Bool.not_eq_true'] at h1
  rw [e] at h1
  unfold withoutR
  rw [hasId_of h1.1.2, invd_of h1.2]
theorem lift_valid {r : Room} (hv : validRoomB r = true) (p : Ban → Bool) : validRoomB { r with bans := dropP p r.bans } = true := by
  have hV := valid_iff.1 hv
  exact valid_iff.2 ⟨hV.m1, hV.m32, hV.i16, Nat.le_trans (dropP_le _ _) hV.b16, hV.mok, hV.mp, hV.iok, hV.ip, fun b hb => hV.bok b ((List.mem_filter.1 hb).1), hV.bp.filter _, hV.own⟩
set_option maxHeartbeats 4000000 in
set_option maxRecDepth 100000 in
theorem specLiftBan_c (r : Room) (n : Int) (id : Int) (a : Int) (v1 v2 v3 : Value) (w : World) (h1 : SliceK memberD w v1 r.members) (h2 : SliceK inviteD w v2 r.invites) (h3 : SliceK banD w v3 r.bans) :
    Calls Try.prog 21 #[.agg #[.bool r.open_, v1, v2, v3], .int .i64 n, .int .i64 id, .int .i64 a] w (RetElem2 roomD w (liftV r n id a) (liftOk r n id a)) := by
  show Calls Try.prog 21 #[.agg #[.bool r.open_, v1, v2, v3], .int .i64 n, .int .i64 id, .int .i64 a] w (RetElem2 roomD w (chR r (liftF n id a)) (chOk r (liftF n id a)))
  obtain ⟨A1, c1, rfl⟩ := h1.shape
  obtain ⟨A2, c2, rfl⟩ := h2.shape
  obtain ⟨A3, c3, rfl⟩ := h3.shape
  have H1 := hide h1
  have H2 := hide h2
  have H3 := hide h3
  clear h1 h2 h3
  have HS0 := hide (show St w ((w.alloc (.cells #[.bool r.open_, .slice A1 r.members.length c1, .slice A2 r.invites.length c2, .slice A3 r.bans.length c3] 32)).alloc (.cells #[.bool false, .slice none 0 0, .slice none 0 0, .slice none 0 0] 32)) [blk (w.heap.size + 1) #[.bool false, .slice none 0 0, .slice none 0 0, .slice none 0 0] 32, blk w.heap.size #[.bool r.open_, .slice A1 r.members.length c1, .slice A2 r.invites.length c2, .slice A3 r.bans.length c3] 32] from (((St.start w).alloc rfl).alloc (by simp)))
  by_cases ha : aboveB r n id 6 a = true
  · have HA := hide ha
    have hvm : validRoomB r = true ∧ mayToB r n id 6 a = true := by simpa [aboveB] using ha
    have HVM := hide hvm
    have HFEW := hide (fewR_of hvm.1)
    have h40 := (fewR_of hvm.1).2.2
    clear ha hvm
    by_cases hn : 0 ≤ idxP (banIs id) r.bans
    · have HBN := hide (show bannd r id = true by unfold bannd; exact decide_eq_true hn)
      have hk0 : decide (idxP (banIs id) r.bans < 0) = false := decide_eq_false (by omega)
      clear hn
      go_enter Try.func21, Try.ntmps21
      go_wp2_with (first
        | (go_at_call 51
           refine (l02Above_c r _ _ n id 6 a _ (Blk.rowAt (d := roomD) (x := r) HS0.out.at1 (room_K_mk (H1.out.below HS0.out.below) (H2.out.below HS0.out.below) (H3.out.below HS0.out.below)) rfl)).mono ?_
           rintro e w1 ⟨rfl, hb⟩
           rw [HA.out]
           have HS1 := hide (HS0.out.by hb)
           (try clear x1_0 x1_1 x1_2 x1_3 xf1 xz1)
           obtain ⟨x1_0, x1_1, x1_2, x1_3⟩ := HS1.out.at0.c4
           have xf1 := HS1.out.at0.frozen
           have xz1 := HS1.out.at0.lt
           clear hb)
        | (go_at_call 59
           refine (l02Banned_c r _ _ id _ (Blk.rowAt (d := roomD) (x := r) HS1.out.at1 (room_K_mk (H1.out.below HS1.out.below) (H2.out.below HS1.out.below) (H3.out.below HS1.out.below)) rfl)).mono ?_
           rintro e w2 ⟨rfl, hb⟩
           skip
           have HS2 := hide (HS1.out.by hb)
           (try clear x1_0 x1_1 x1_2 x1_3 xf1 xz1)
           obtain ⟨x1_0, x1_1, x1_2, x1_3⟩ := HS2.out.at0.c4
           have xf1 := HS2.out.at0.frozen
           have xz1 := HS2.out.at0.lt
           clear hb)
        | (go_at_call 28
           refine (l02Copy_c r _ _ _ (Blk.rowAt (d := roomD) (x := r) HS2.out.at1 (room_K_mk (H1.out.below HS2.out.below) (H2.out.below HS2.out.below) (H3.out.below HS2.out.below)) rfl) HFEW.out).mono ?_
           rintro e w3 he
           obtain ⟨cs9, F9, rfl, hK, hb, hS⟩ := HS2.out.elem he
           obtain ⟨u1, u2, u3, rfl, k1, k2, k3⟩ := room_K hK
           obtain ⟨B1, e1, rfl⟩ := k1.shape
           obtain ⟨B2, e2, rfl⟩ := k2.shape
           obtain ⟨B3, e3, rfl⟩ := k3.shape
           obtain ⟨F1, F2, F3, hP⟩ := hS.roomParts
           have HPP := hide hP
           have xz1 := hS.at1.lt
           (try clear x1_0 x1_1 x1_2 x1_3 xf1)
           clear hK k1 k2 k3 hb hS he hP))
      have HPQ := hide (St.drop2 HPP.out)
      have hK3 := H3.out
      go_loopg [11] r.bans.length (fun gg s11 wr => ∃ (k : Nat) (A9 : Option Addr) (c9 : Nat) (F9 : List Nat), k ≤ r.bans.length ∧ r.bans.length - k ≤ gg ∧ s11 = .int .i64 k ∧ Hid (St w wr (own banD 67 (.slice A9 (dropP (banIs id) (r.bans.take k)).length c9) (dropP (banIs id) (r.bans.take k)) F9 :: blk w3.heap.size #[.bool r.open_, .slice B1 r.members.length e1, .slice B2 r.invites.length e2, .slice A9 (dropP (banIs id) (r.bans.take k)).length c9] 32 :: [own memberD 69 (.slice B1 r.members.length e1) r.members F1, own inviteD 65 (.slice B2 r.invites.length e2) r.invites F2, blk (w.heap.size + 1) #[.bool false, .slice none 0 0, .slice none 0 0, .slice none 0 0] 32, blk w.heap.size #[.bool r.open_, .slice A1 r.members.length c1, .slice A2 r.invites.length c2, .slice A3 r.bans.length c3] 32])))
      case atStart =>
        exact ⟨0, _, _, _, Nat.zero_le _, by omega, rfl, hide (St.empty (show St w _ (blk (w3.heap.size + 1) #[] 67 :: blk w3.heap.size #[.bool r.open_, .slice B1 r.members.length e1, .slice B2 r.invites.length e2, .slice (some ⟨w3.heap.size + 1, 0, none⟩) 0 0] 32 :: [own memberD 69 (.slice B1 r.members.length e1) r.members F1, own inviteD 65 (.slice B2 r.invites.length e2) r.invites F2, blk (w.heap.size + 1) #[.bool false, .slice none 0 0, .slice none 0 0, .slice none 0 0] 32, blk w.heap.size #[.bool r.open_, .slice A1 r.members.length c1, .slice A2 r.invites.length c2, .slice A3 r.bans.length c3] 32]) from by (repeat (first | (with_reducible exact HPQ.out) | (with_reducible apply St.alloc) | (with_reducible apply St.set0) | (with_reducible apply St.set1) | (with_reducible apply St.set2) | (with_reducible apply St.set3) | (with_reducible apply St.drew))); all_goals (try (first | rfl | (simp; done)))))⟩
      case round =>
        obtain ⟨k, A9, c9, F9, hk, hg, rfl, HS⟩ := hrel
        obtain ⟨x0, x1, x2, x3⟩ := HS.out.at1.c4
        have xf := HS.out.at1.frozen
        have xz := HS.out.at1.lt
        obtain ⟨y0, y1, y2, y3⟩ := (St.at3 HS.out.drop.drop).c4
        have yz := (St.at3 HS.out.drop.drop).lt
        by_cases hlt : k < r.bans.length
        · obtain ⟨m, hx⟩ : ∃ m, r.bans[k]? = some m := ⟨_, List.getElem?_eq_getElem hlt⟩
          obtain ⟨A8, c8, hv8, hl8, hm8, hra⟩ := H3.out
          simp only [Value.slice.injEq, true_and] at hv8
          obtain ⟨rfl, rfl⟩ := hv8
          rcases hra with hnil | ⟨q, o2, rfl, hra⟩
          · rw [hnil] at hlt; simp at hlt
          obtain ⟨hq, hc0, hc1⟩ := ban_at hra HS.out.below hx
          have HX := hide hx
          have hlt2 : (k : Int) < (r.bans.length : Int) := by omega
          have hlk := dropP_le (banIs id) (r.bans.take k)
          have hlk2 : (r.bans.take k).length ≤ k := List.length_take_le _ _
          clear hx hra
          by_cases hid : m.id = id
          · have HID := hide (show banIs id m = true by simp [banIs, hid])
            have hne1 : (m.id != id) = false := by simp [hid]
            clear hid
            go_wp2_with fail
            go_roundg (r.bans.length - (k + 1))
            case measure => omega
            case rel => exact ⟨k + 1, A9, c9, F9, by omega, by omega, by go_num, by rw [dropP_skip HX.out HID.out]; exact HS⟩
          · have HID := hide (show banIs id m = false by simp [banIs, hid])
            have hne1 : (m.id != id) = true := by simp [hid]
            clear hid
            go_wp2_with fail
            go_region_law (
              refine step_app_st (d := banD) (w0 := w) rfl rfl (.tmp 42) (.tmp 48) 30 rfl (.agg #[.int .i64 0, .int .i64 0]) 16 Try.underlying30 infoBan rfl (by omega) (by omega) (.slice A9 (dropP (banIs id) (r.bans.take k)).length c9) (dropP (banIs id) (r.bans.take k)) F9 (by simp [Act.eval, Act.put]) wr.heap.size #[.int .i64 m.id, .int .i64 m.until_] (by (repeat (first | (with_reducible exact HS.out) | (with_reducible apply St.alloc) | (with_reducible apply St.set0) | (with_reducible apply St.set1) | (with_reducible apply St.set2) | (with_reducible apply St.set3) | (with_reducible apply St.drew))); all_goals (try (first | rfl | (simp; done)))) 1 (by simp [Act.eval, Act.put]) m rfl (by omega) ?_
              intro g cap w4 F4 hS
              have HS4 := hide hS
              obtain ⟨z0, z1, z2, z3⟩ := hS.at1.c4
              have zf := hS.at1.frozen
              have zz := hS.at1.lt
              clear hS)
            all_goals
              go_wp2_with fail
              go_roundg (r.bans.length - (k + 1))
              case measure => omega
              case rel =>
                have hlen : (dropP (banIs id) (r.bans.take (k + 1))).length = (dropP (banIs id) (r.bans.take k)).length + 1 := by rw [dropP_keep HX.out HID.out]; simp
                refine ⟨k + 1, some ⟨g, 0, none⟩, cap, F4, by omega, by omega, by go_num, hide ?_⟩
                rw [hlen, dropP_keep HX.out HID.out]
                (repeat (first | (with_reducible exact HS4.out) | (with_reducible apply St.alloc) | (with_reducible apply St.set0) | (with_reducible apply St.set1) | (with_reducible apply St.set2) | (with_reducible apply St.set3) | (with_reducible apply St.drew))); all_goals (try (first | rfl | (simp; done)))
        · obtain rfl : k = r.bans.length := by omega
          have HOK := hide (show chOk r (liftF n id a) = true by
            simp only [chOk, liftF]
            rw [HVM.out.1, HVM.out.2, HBN.out, lift_eq HVM.out.1 HBN.out, lift_valid HVM.out.1]; rfl)
          have HV9 := hide (show chR r (liftF n id a) = { r with bans := dropP (banIs id) r.bans } from (chR_yes HOK.out).trans (lift_eq HVM.out.1 HBN.out))
          rw [List.take_length] at HS x3
          obtain ⟨z0, z1, z2, z3⟩ := (St.at3 HS.out.drop).c4
          have zf := (St.at3 HS.out.drop).frozen
          have zz := (St.at3 HS.out.drop).lt
          clear hlt
          go_wp2_with fail
          refine bodyPost_ret (v := .tuple #[.agg #[.bool r.open_, .slice B1 r.members.length e1, .slice B2 r.invites.length e2, .slice A9 (dropP (banIs id) r.bans).length c9], .bool true]) (by simp [results, Try.results21, go_sem, z0, z1, z2, z3, zf, zz]) rfl ?_
          rw [HV9.out, HOK.out]
          exact St.ret2 (cs := [.bool r.open_, .slice B1 r.members.length e1, .slice B2 r.invites.length e2, .slice A9 (dropP (banIs id) r.bans).length c9]) (F := F1 ++ (F2 ++ F9)) (St.room2 (x := { r with bans := dropP (banIs id) r.bans }) (by (repeat (first | (with_reducible exact (St.drop1 HS.out).push2) | (with_reducible apply St.alloc) | (with_reducible apply St.set0) | (with_reducible apply St.set1) | (with_reducible apply St.set2) | (with_reducible apply St.set3) | (with_reducible apply St.drew))); all_goals (try (first | rfl | (simp; done))))) rfl
    · have HBN := hide (show bannd r id = false by unfold bannd; exact decide_eq_false hn)
      have hk0 : decide (idxP (banIs id) r.bans < 0) = true := decide_eq_true (by omega)
      have HOK := hide (show chOk r (liftF n id a) = false by simp [chOk, liftF, HBN.out])
      clear hn
      go_enter Try.func21, Try.ntmps21
      go_wp2_with (first
        | (go_at_call 51
           refine (l02Above_c r _ _ n id 6 a _ (Blk.rowAt (d := roomD) (x := r) HS0.out.at1 (room_K_mk (H1.out.below HS0.out.below) (H2.out.below HS0.out.below) (H3.out.below HS0.out.below)) rfl)).mono ?_
           rintro e w1 ⟨rfl, hb⟩
           rw [HA.out]
           have HS1 := hide (HS0.out.by hb)
           (try clear x1_0 x1_1 x1_2 x1_3 xf1 xz1)
           obtain ⟨x1_0, x1_1, x1_2, x1_3⟩ := HS1.out.at0.c4
           have xf1 := HS1.out.at0.frozen
           have xz1 := HS1.out.at0.lt
           clear hb)
        | (go_at_call 59
           refine (l02Banned_c r _ _ id _ (Blk.rowAt (d := roomD) (x := r) HS1.out.at1 (room_K_mk (H1.out.below HS1.out.below) (H2.out.below HS1.out.below) (H3.out.below HS1.out.below)) rfl)).mono ?_
           rintro e w2 ⟨rfl, hb⟩
           skip
           have HS2 := hide (HS1.out.by hb)
           (try clear x1_0 x1_1 x1_2 x1_3 xf1 xz1)
           obtain ⟨x1_0, x1_1, x1_2, x1_3⟩ := HS2.out.at0.c4
           have xf1 := HS2.out.at0.frozen
           have xz1 := HS2.out.at0.lt
           clear hb))
      refine bodyPost_ret (v := .tuple #[.agg #[.bool false, .slice none 0 0, .slice none 0 0, .slice none 0 0], .bool false]) (by simp [results, Try.results21, go_sem, x1_0, x1_1, x1_2, x1_3, xf1, xz1]) rfl ?_
      rw [chR_no HOK.out, HOK.out]
      exact St.ret2 (cs := [.bool false, .slice none 0 0, .slice none 0 0, .slice none 0 0]) (F := []) (St.noRoom (by (repeat (first | (with_reducible exact HS2.out) | (with_reducible apply St.alloc) | (with_reducible apply St.set0) | (with_reducible apply St.set1) | (with_reducible apply St.set2) | (with_reducible apply St.set3) | (with_reducible apply St.drew))); all_goals (try (first | rfl | (simp; done))))) rfl
  · have HA := hide (show aboveB r n id 6 a = false by simpa using ha)
    have HOK := hide (show chOk r (liftF n id a) = false by
      have h := HA.out
      unfold aboveB at h
      rw [Bool.and_eq_false_iff] at h
      rcases h with h | h <;> simp [chOk, liftF, h])
    clear ha
    go_enter Try.func21, Try.ntmps21
    go_wp2_with (
      (go_at_call 51
       refine (l02Above_c r _ _ n id 6 a _ (Blk.rowAt (d := roomD) (x := r) HS0.out.at1 (room_K_mk (H1.out.below HS0.out.below) (H2.out.below HS0.out.below) (H3.out.below HS0.out.below)) rfl)).mono ?_
       rintro e w1 ⟨rfl, hb⟩
       rw [HA.out]
       have HS1 := hide (HS0.out.by hb)
       (try clear x1_0 x1_1 x1_2 x1_3 xf1 xz1)
       obtain ⟨x1_0, x1_1, x1_2, x1_3⟩ := HS1.out.at0.c4
       have xf1 := HS1.out.at0.frozen
       have xz1 := HS1.out.at0.lt
       clear hb))
    refine bodyPost_ret (v := .tuple #[.agg #[.bool false, .slice none 0 0, .slice none 0 0, .slice none 0 0], .bool false]) (by simp [results, Try.results21, go_sem, x1_0, x1_1, x1_2, x1_3, xf1, xz1]) rfl ?_
    rw [chR_no HOK.out, HOK.out]
    exact St.ret2 (cs := [.bool false, .slice none 0 0, .slice none 0 0, .slice none 0 0]) (F := []) (St.noRoom (by (repeat (first | (with_reducible exact HS1.out) | (with_reducible apply St.alloc) | (with_reducible apply St.set0) | (with_reducible apply St.set1) | (with_reducible apply St.set2) | (with_reducible apply St.set3) | (with_reducible apply St.drew))); all_goals (try (first | rfl | (simp; done))))) rfl
end Go.Proofs.Ytccgjnanphonnaa
