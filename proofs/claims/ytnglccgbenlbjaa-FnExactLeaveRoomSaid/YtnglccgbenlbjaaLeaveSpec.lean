/- Somebody leaves a room: the reference. -/
import Derived.Test.YtnglccgbenlbjaaLeave
import Derived.Test.YtnglccgbenlbjaaRest
import Derived.Test.YtnglccgbenlbjaaSpecRoom
import Derived.Deep.RegionWith
import Derived.Deep.DrawnRows
namespace Go.Proofs.Ytnglccgbenlbjaa
open Go Go.RowKit Go.BigFrame
set_option linter.unusedVariables false
set_option linter.unusedSimpArgs false
attribute [local go_sem ↓] Go.wp_at_zero Go.wp_at_succ
def heirI (l : List Member) : Int := if ownB l then 0 else 3
def maxI (a b : Int) : Int := if b < a then a else b
theorem l00Max_c (a b : Int) (w : World) : Calls Try.prog 36 #[.int .i64 a, .int .i64 b] w fun e w' => e = .returned (.int .i64 (maxI a b)) ∧ w = w' := by
  by_cases h : b < a
  · have HM := hide (show maxI a b = a by simp [maxI, h])
    go_enter Try.func36, Try.ntmps36
    go_wp2
    go_ret
    exact ⟨by rw [HM.out]; rfl, rfl⟩
  · have HM := hide (show maxI a b = b by simp [maxI, h])
    go_enter Try.func36, Try.ntmps36
    go_wp2
    go_ret
    exact ⟨by rw [HM.out]; rfl, rfl⟩
set_option maxHeartbeats 2000000 in
theorem l02Heir_c (l : List Member) (v : Value) (w : World) (hl : SliceK memberD w v l) (h40 : l.length ≤ 1000) :
    Calls Try.prog 37 #[v] w fun e w' => e = .returned (.int .i64 (heirI l)) ∧ Below w.heap.size w w' := by
  obtain ⟨A, c, rfl, hlc, hmx, hra⟩ := hl
  have HA := hide hra
  clear hra
  go_enter Try.func37, Try.ntmps37
  go_wp2_with fail
  go_loopg [3] l.length (fun gg s3 wr => ∃ k : Nat, k ≤ l.length ∧ l.length - k ≤ gg ∧ s3 = .int .i64 k ∧ Hid (∀ j y, j < k → l[j]? = some y → y.role ≠ 3) ∧ Hid (Below w.heap.size w wr))
  case atStart => exact ⟨0, Nat.zero_le _, by omega, rfl, hide (by intro j y h; omega), Below.refl _ _⟩
  case round =>
    obtain ⟨k, hk, hg, rfl, HN, HB⟩ := hrel
    by_cases hlt : k < l.length
    · obtain ⟨m, hx⟩ : ∃ m, l[k]? = some m := ⟨_, List.getElem?_eq_getElem hlt⟩
      rcases HA.out with hnil | ⟨q, o2, rfl, hra⟩
      · rw [hnil] at hlt; simp at hlt
      obtain ⟨hq, hc0, hc1, hc2, hc3⟩ := member_at hra HB.out hx
      have HX := hide hx
      have hlt2 : (k : Int) < (l.length : Int) := by omega
      clear hx hra HA
      by_cases hr : m.role = 3
      · have hr2 : (m.role == 3) = true := by simp [hr]
        have HH := hide (show heirI l = 0 by
          unfold heirI ownB
          rw [if_pos]
          rw [List.any_eq_true]
          exact ⟨m, List.mem_of_getElem? HX.out, by simp [hr]⟩)
        clear hr
        go_wp2_with fail
        go_ret
        exact ⟨by rw [HH.out]; rfl, HB.out⟩
      · have hr2 : (m.role == 3) = false := by simp [hr]
        have HR := hide hr
        clear hr
        go_wp2_with fail
        go_roundg (l.length - (k + 1))
        case measure => omega
        case rel => exact ⟨k + 1, by omega, by omega, by go_num, hide (fun j y hj hy => by
          by_cases e : j = k
          · subst e; rw [HX.out] at hy; cases hy; exact HR.out
          · exact HN.out j y (by omega) hy), HB⟩
    · obtain rfl : k = l.length := by omega
      have HH := hide (show heirI l = 3 by
        unfold heirI ownB
        rw [if_neg]
        rw [List.any_eq_true]
        rintro ⟨m, hm, h⟩
        obtain ⟨j, hj⟩ := List.getElem?_of_mem hm
        exact HN.out j m (List.getElem?_eq_some_iff.1 hj).1 hj (by simpa using h))
      clear HA
      go_wp2_with fail
      go_ret
      exact ⟨by rw [HH.out]; rfl, HB.out⟩
theorem maxI_own {b : Int} {l : List Member} (h : 0 ≤ b) (ho : ownB l = true) : maxI b (heirI l) = b := by
  have hh : heirI l = 0 := by unfold heirI; rw [if_pos ho]
  unfold maxI; rw [hh]; split <;> omega
theorem maxI_no {b : Int} {l : List Member} (h : b ≤ 3) (ho : ownB l = false) : maxI b (heirI l) = 3 := by
  have hh : heirI l = 3 := by unfold heirI; rw [if_neg (by simp [ho])]
  unfold maxI; rw [hh]; split <;> omega
theorem heir_eq {r : Room} {n : Int} (hv : validRoomB r = true) (hid : hasId r n = true) {k : Nat} {b : Member} (hk : (dropP (idIs n) r.members)[k]? = some b) (hb : ∀ y ∈ dropP (idIs n) r.members, y ≠ b → befM b y = true) :
    heirR (withoutR r n) = { r with members := (dropP (idIs n) r.members).set k { b with role := maxI b.role (heirI (dropP (idIs n) r.members)) } } := by
  have hV := valid_iff.1 hv
  rw [leave_eq hv hid]
  have hbm := hV.mok b (List.mem_filter.1 (List.mem_of_getElem? hk)).1
  simp only [memOkB, Bool.and_eq_true, inB, decide_eq_true_eq] at hbm
  by_cases ho : ownB (dropP (idIs n) r.members) = true
  · rw [heirR_own (x := { r with members := dropP (idIs n) r.members }) ho]
    have e : ({ b with role := maxI b.role (heirI (dropP (idIs n) r.members)) } : Member) = b := by
      have : maxI b.role (heirI (dropP (idIs n) r.members)) = b.role := maxI_own (by omega) ho
      rw [this]
    rw [e]
    congr 1
    apply List.ext_getElem?
    intro i
    rw [List.getElem?_set]
    split
    · rename_i h; subst h
      rw [hk, if_pos (List.getElem?_eq_some_iff.1 hk).1]
    · rfl
  · have ho' : ownB (dropP (idIs n) r.members) = false := by simpa using ho
    rw [(heirR_no (x := { r with members := dropP (idIs n) r.members }) (drop_dist hV.mp _) ho' hk hb).1]
    have : maxI b.role (heirI (dropP (idIs n) r.members)) = 3 := maxI_no (by omega) ho'
    rw [this]
set_option maxHeartbeats 4000000 in
set_option maxRecDepth 100000 in
theorem specLeaveRoom_c (r : Room) (id : Int) (v1 v2 v3 : Value) (w : World) (h1 : SliceK memberD w v1 r.members) (h2 : SliceK inviteD w v2 r.invites) (h3 : SliceK banD w v3 r.bans) :
    Calls Try.prog 14 #[.agg #[.bool r.open_, v1, v2, v3], .int .i64 id] w (RetElem2 roomD w (leaveV r id) (leaveOk r id)) := by
  show Calls Try.prog 14 #[.agg #[.bool r.open_, v1, v2, v3], .int .i64 id] w (RetElem2 roomD w (chR r (leaveF id)) (chOk r (leaveF id)))
  obtain ⟨A1, c1, rfl⟩ := h1.shape
  obtain ⟨A2, c2, rfl⟩ := h2.shape
  obtain ⟨A3, c3, rfl⟩ := h3.shape
  have H1 := hide h1
  have H2 := hide h2
  have H3 := hide h3
  clear h1 h2 h3
  have HS0 := hide (show St w ((w.alloc (.cells #[.bool r.open_, .slice A1 r.members.length c1, .slice A2 r.invites.length c2, .slice A3 r.bans.length c3] 35)).alloc (.cells #[.bool false, .slice none 0 0, .slice none 0 0, .slice none 0 0] 35)) [blk (w.heap.size + 1) #[.bool false, .slice none 0 0, .slice none 0 0, .slice none 0 0] 35, blk w.heap.size #[.bool r.open_, .slice A1 r.members.length c1, .slice A2 r.invites.length c2, .slice A3 r.bans.length c3] 35] from (((St.start w).alloc rfl).alloc (by simp)))
  by_cases hv : validRoomB r = true
  · have HV := hide hv
    have HFEW := hide (fewR_of hv)
    have h40 := (fewR_of hv).1
    have hm1 := (valid_iff.1 hv).m1
    by_cases hn : 0 ≤ idxP (idIs id) r.members
    · have HHAS := hide (show hasId r id = true by unfold hasId; exact decide_eq_true hn)
      have hk0 : decide (idxP (idIs id) r.members < 0) = false := decide_eq_false (by omega)
      clear hn
      by_cases hl : r.members.length = 1
      · have HOK := hide (show chOk r (leaveF id) = false by simp [chOk, leaveF, hl])
        have hl2 : decide ((r.members.length : Int) < 2) = true := decide_eq_true (by omega)
        clear hv hl
        go_enter Try.func14, Try.ntmps14
        go_wp2_with (first
          | (go_at_call 20
             refine (l02Is_c r _ _ _ (Blk.rowAt (d := roomD) (x := r) HS0.out.at1 (room_K_mk (H1.out.below HS0.out.below) (H2.out.below HS0.out.below) (H3.out.below HS0.out.below)) rfl)).mono ?_
             rintro e w1 ⟨rfl, hb⟩
             rw [HV.out]
             have HS1 := hide (HS0.out.by hb)
             (try clear x1_0 x1_1 x1_2 x1_3 xf1 xz1)
             obtain ⟨x1_0, x1_1, x1_2, x1_3⟩ := HS1.out.at0.c4
             have xf1 := HS1.out.at0.frozen
             have xz1 := HS1.out.at0.lt
             clear hb)
          | (go_at_call 34
             refine (l02Find_c r _ _ id _ (Blk.rowAt (d := roomD) (x := r) HS1.out.at1 (room_K_mk (H1.out.below HS1.out.below) (H2.out.below HS1.out.below) (H3.out.below HS1.out.below)) rfl)).mono ?_
             rintro e w2 ⟨rfl, hb⟩
             skip
             have HS2 := hide (HS1.out.by hb)
             (try clear x1_0 x1_1 x1_2 x1_3 xf1 xz1)
             obtain ⟨x1_0, x1_1, x1_2, x1_3⟩ := HS2.out.at0.c4
             have xf1 := HS2.out.at0.frozen
             have xz1 := HS2.out.at0.lt
             obtain ⟨y2_0, y2_1, y2_2, y2_3⟩ := HS2.out.at1.c4
             have yz2 := HS2.out.at1.lt
             clear hb))
        refine bodyPost_ret (v := .tuple #[.agg #[.bool false, .slice none 0 0, .slice none 0 0, .slice none 0 0], .bool false]) (by simp [results, Try.results14, go_sem, x1_0, x1_1, x1_2, x1_3, xf1, xz1]) rfl ?_
        rw [chR_no HOK.out, HOK.out]
        exact St.ret2 (cs := [.bool false, .slice none 0 0, .slice none 0 0, .slice none 0 0]) (F := []) (St.noRoom (by (repeat (first | (with_reducible exact HS2.out) | (with_reducible apply St.alloc) | (with_reducible apply St.set0) | (with_reducible apply St.set1) | (with_reducible apply St.set2) | (with_reducible apply St.set3) | (with_reducible apply St.drew) | (with_reducible apply St.drewN))); all_goals (try (first | rfl | (simp; done))))) rfl
      · have HOK := hide (show chOk r (leaveF id) = true by
          simp only [chOk, leaveF]
          rw [hv, HHAS.out, leave_valid hv HHAS.out hl]; simp [hl])
        have HV9 := hide (show chR r (leaveF id) = heirR (withoutR r id) from chR_yes HOK.out)
        have hl2 : decide ((r.members.length : Int) < 2) = false := decide_eq_false (by omega)
        have hlen := leave_len hv HHAS.out
        have hlp : 0 < (dropP (idIs id) r.members).length := by omega
        have HD := hide (show DistId (dropP (idIs id) r.members) from drop_dist (valid_iff.1 hv).mp _)
        clear hv hl
        go_enter Try.func14, Try.ntmps14
        go_wp2_with (first
          | (go_at_call 20
             refine (l02Is_c r _ _ _ (Blk.rowAt (d := roomD) (x := r) HS0.out.at1 (room_K_mk (H1.out.below HS0.out.below) (H2.out.below HS0.out.below) (H3.out.below HS0.out.below)) rfl)).mono ?_
             rintro e w1 ⟨rfl, hb⟩
             rw [HV.out]
             have HS1 := hide (HS0.out.by hb)
             (try clear x1_0 x1_1 x1_2 x1_3 xf1 xz1)
             obtain ⟨x1_0, x1_1, x1_2, x1_3⟩ := HS1.out.at0.c4
             have xf1 := HS1.out.at0.frozen
             have xz1 := HS1.out.at0.lt
             clear hb)
          | (go_at_call 34
             refine (l02Find_c r _ _ id _ (Blk.rowAt (d := roomD) (x := r) HS1.out.at1 (room_K_mk (H1.out.below HS1.out.below) (H2.out.below HS1.out.below) (H3.out.below HS1.out.below)) rfl)).mono ?_
             rintro e w2 ⟨rfl, hb⟩
             skip
             have HS2 := hide (HS1.out.by hb)
             (try clear x1_0 x1_1 x1_2 x1_3 xf1 xz1)
             obtain ⟨x1_0, x1_1, x1_2, x1_3⟩ := HS2.out.at0.c4
             have xf1 := HS2.out.at0.frozen
             have xz1 := HS2.out.at0.lt
             obtain ⟨y2_0, y2_1, y2_2, y2_3⟩ := HS2.out.at1.c4
             have yz2 := HS2.out.at1.lt
             clear hb)
          | (go_at_call 35
             refine (l02Copy_c r _ _ _ (Blk.rowAt (d := roomD) (x := r) HS2.out.at1 (room_K_mk (H1.out.below HS2.out.below) (H2.out.below HS2.out.below) (H3.out.below HS2.out.below)) rfl) HFEW.out).mono ?_
             rintro e w3 he
             obtain ⟨cs9, F9, rfl, hK, hb, hS⟩ := HS2.out.elem he
             obtain ⟨u1, u2, u3, rfl, k1, k2, k3⟩ := room_K hK
             obtain ⟨B1, e1, rfl⟩ := k1.shape
             obtain ⟨B2, e2, rfl⟩ := k2.shape
             obtain ⟨B3, e3, rfl⟩ := k3.shape
             obtain ⟨F1, F2, F3, hP⟩ := hS.roomParts
             have HPP := hide hP
             have xz1 := hS.at1.lt
             obtain ⟨y3_0, y3_1, y3_2, y3_3⟩ := (St.at3 hP.drop).c4
             have yz3 := (St.at3 hP.drop).lt
             (try clear x1_0 x1_1 x1_2 x1_3 xf1)
             clear hK k1 k2 k3 hb hS he hP)
          | (go_at_call 22
             refine (l02Rest_c r.members _ id _ (H1.out.below (St.below (w0 := w) (L := blk w3.heap.size #[.bool r.open_, .slice B1 r.members.length e1, .slice B2 r.invites.length e2, .slice B3 r.bans.length e3] 35 :: _) (by (repeat (first | (with_reducible exact HPP.out) | (with_reducible apply St.alloc) | (with_reducible apply St.set0) | (with_reducible apply St.set1) | (with_reducible apply St.set2) | (with_reducible apply St.set3) | (with_reducible apply St.drew) | (with_reducible apply St.drewN))); all_goals (try (first | rfl | (simp; done)))))) (by omega)).mono ?_
             rintro e w7 ⟨v7, rfl, hM, hb⟩
             obtain ⟨A7, c7, rfl⟩ := hM.shape
             obtain ⟨F7, hS⟩ := (show St w _ (blk w3.heap.size #[.bool r.open_, .slice B1 r.members.length e1, .slice B2 r.invites.length e2, .slice B3 r.bans.length e3] 35 :: _) by (repeat (first | (with_reducible exact HPP.out) | (with_reducible apply St.alloc) | (with_reducible apply St.set0) | (with_reducible apply St.set1) | (with_reducible apply St.set2) | (with_reducible apply St.set3) | (with_reducible apply St.drew) | (with_reducible apply St.drewN))); all_goals (try (first | rfl | (simp; done)))).made hM hb
             have HS7 := hide (St.drop2 hS)
             obtain ⟨x7_0, x7_1, x7_2, x7_3⟩ := hS.at1.c4
             have xf7 := hS.at1.frozen
             have xz7 := hS.at1.lt
             clear hM hb hS))
        obtain ⟨⟨q, rfl⟩, -, hlc⟩ := St.hasBlk (d := memberD) rfl HS7.out (List.getElem?_eq_getElem hlp)
        go_loopg [7, 8] (dropP (idIs id) r.members).length (fun gg s7 s8 wr => ∃ (k i : Nat), k < (dropP (idIs id) r.members).length ∧ i ≤ (dropP (idIs id) r.members).length ∧ (dropP (idIs id) r.members).length - i ≤ gg ∧ s7 = .int .i64 k ∧ s8 = .int .i64 i ∧ Hid (BestAt (dropP (idIs id) r.members) k i) ∧ Hid (St w wr (own memberD 53 (.slice (some ⟨q, 0, none⟩) (dropP (idIs id) r.members).length c7) (dropP (idIs id) r.members) F7 :: blk w3.heap.size #[.bool r.open_, .slice (some ⟨q, 0, none⟩) (dropP (idIs id) r.members).length c7, .slice B2 r.invites.length e2, .slice B3 r.bans.length e3] 35 :: own inviteD 77 (.slice B2 r.invites.length e2) r.invites F2 :: own banD 80 (.slice B3 r.bans.length e3) r.bans F3 :: [blk (w.heap.size + 1) #[.bool false, .slice none 0 0, .slice none 0 0, .slice none 0 0] 35, blk w.heap.size #[.bool r.open_, .slice A1 r.members.length c1, .slice A2 r.invites.length c2, .slice A3 r.bans.length c3] 35])))
        case atStart => exact ⟨0, 1, hlp, by omega, by omega, rfl, rfl, hide (BestAt.start hlp), hide (by (repeat (first | (with_reducible exact HS7.out) | (with_reducible apply St.alloc) | (with_reducible apply St.set0) | (with_reducible apply St.set1) | (with_reducible apply St.set2) | (with_reducible apply St.set3) | (with_reducible apply St.drew) | (with_reducible apply St.drewN))); all_goals (try (first | rfl | (simp; done))))⟩
        case round =>
          obtain ⟨k, i, hk, hi, hgi, rfl, rfl, HB, HS⟩ := hrel
          obtain ⟨b, hb⟩ : ∃ b, (dropP (idIs id) r.members)[k]? = some b := ⟨_, List.getElem?_eq_getElem hk⟩
          have hkl : (k : Int) < ((dropP (idIs id) r.members).length : Int) := by omega
          have HBB := hide hb
          obtain ⟨x0, x1, x2, x3⟩ := HS.out.at1.c4
          have xf := HS.out.at1.frozen
          have xz := HS.out.at1.lt
          by_cases hil : i < (dropP (idIs id) r.members).length
          · obtain ⟨x, hx⟩ : ∃ x, (dropP (idIs id) r.members)[i]? = some x := ⟨_, List.getElem?_eq_getElem hil⟩
            have hil2 : (i : Int) < ((dropP (idIs id) r.members).length : Int) := by omega
            have HX := hide hx
            have HROW := hide (show RowAt memberD wr q 0 (dropP (idIs id) r.members) by
              obtain ⟨A8, c8, hv8, _, _, hra⟩ := HS.out.toK
              simp only [Value.slice.injEq] at hv8
              rcases hra with h0 | ⟨b8, o8, h8, hra⟩
              · rw [h0] at hlp; simp at hlp
              · rw [h8] at hv8
                simp only [Option.some.injEq, Addr.mk.injEq] at hv8
                obtain ⟨⟨rfl, rfl, _⟩, _⟩ := hv8
                exact hra)
            have HP1 := hide (show RowAt memberD wr q (i * 4) [x] by have := HROW.out.ptr hx; rw [Nat.zero_add] at this; exact this)
            have HP2 := hide (show RowAt memberD wr q (k * 4) [b] by have := HROW.out.ptr hb; rw [Nat.zero_add] at this; exact this)
            clear hb hx
            by_cases hbf : befM x b = true
            · have HBF := hide hbf
              clear hbf
              go_wp2_with fail
              go_region_with (
                go_at_call 21
                refine (l02Before_c x b _ _ _ _ _ (HP1.out.below (by first | exact Below.refl _ _ | exact (Below.refl _ _).drew)) (HP2.out.below (by first | exact Below.refl _ _ | exact (Below.refl _ _).drew))).mono ?_
                rintro e w5 ⟨rfl, hb5⟩
                rw [HBF.out]
                have HS5 := hide (St.by (by first | exact HS.out | exact HS.out.drew) hb5)
                clear hb5)
              all_goals
                go_wp2_with fail
                go_roundg ((dropP (idIs id) r.members).length - (i + 1))
                case measure => omega
                case rel => exact ⟨i, i + 1, hil, by omega, by omega, rfl, by go_num, hide (HB.out.turn HX.out HBB.out HBF.out), HS5⟩
            · have HBF := hide (show befM x b = false by simpa using hbf)
              clear hbf
              go_wp2_with fail
              go_region_with (
                go_at_call 21
                refine (l02Before_c x b _ _ _ _ _ (HP1.out.below (by first | exact Below.refl _ _ | exact (Below.refl _ _).drew)) (HP2.out.below (by first | exact Below.refl _ _ | exact (Below.refl _ _).drew))).mono ?_
                rintro e w5 ⟨rfl, hb5⟩
                rw [HBF.out]
                have HS5 := hide (St.by (by first | exact HS.out | exact HS.out.drew) hb5)
                clear hb5)
              all_goals
                go_wp2_with fail
                go_roundg ((dropP (idIs id) r.members).length - (i + 1))
                case measure => omega
                case rel => exact ⟨k, i + 1, hk, by omega, by omega, rfl, by go_num, hide (HB.out.keep HD.out HX.out HBB.out HBF.out), HS5⟩
          · obtain rfl : i = (dropP (idIs id) r.members).length := by omega
            have HALL := hide (HB.out.all HBB.out)
            have HEQ := hide (heir_eq HV.out HHAS.out HBB.out HALL.out)
            obtain ⟨hcw, hfw, hzw⟩ := St.flatCell (d := memberD) rfl HS.out hb
            obtain ⟨d0, d1, d2, d3⟩ : wr.cell? ⟨q, k * 4, none⟩ = some (.int .i64 b.id) ∧ wr.cell? ⟨q, k * 4 + 1, none⟩ = some (.int .i64 b.role) ∧ wr.cell? ⟨q, k * 4 + 2, none⟩ = some (.int .i64 b.since) ∧ wr.cell? ⟨q, k * 4 + 3, none⟩ = some (.int .i64 b.quiet) := ⟨hcw 0 _ rfl, hcw 1 _ rfl, hcw 2 _ rfl, hcw 3 _ rfl⟩
            clear hb hcw hil
            go_wp2_with fail
            go_region_with (first
              | (go_at_call 37
                 refine (l02Heir_c (dropP (idIs id) r.members) _ _ (SliceK.below (by first | exact Below.refl _ _ | exact (Below.refl _ _).drew) HS.out.toK) (by omega)).mono ?_
                 rintro e w8 ⟨rfl, hb8⟩
                 have HS8 := hide (St.by (by first | exact HS.out | exact HS.out.drew) hb8)
                 obtain ⟨z0, z1, z2, z3⟩ := HS8.out.at1.c4
                 have zf := HS8.out.at1.frozen
                 have zz := HS8.out.at1.lt
                 obtain ⟨hcw, hfw8, hzw8⟩ := St.flatCell (d := memberD) rfl HS8.out HBB.out
                 have f1 : w8.cell? ⟨q, k * 4 + 1, none⟩ = some (.int .i64 b.role) := hcw 1 _ rfl
                 obtain ⟨x1_0, x1_1, x1_2, x1_3⟩ := (St.at3 HS8.out.drop).c4
                 have xf1 := (St.at3 HS8.out.drop).frozen
                 have xz8 := (St.at3 HS8.out.drop).lt
                 obtain ⟨hr1, hr2⟩ := St.apart (d := memberD) rfl (L := _) (St.pull1 HS8.out)
                 obtain ⟨hr3, hr4⟩ := St.apart (d := memberD) rfl (L := _) (St.pull4 HS8.out)
                 clear hb8 hcw)
              | (go_at_call 36; refine (l00Max_c _ _ _).mono ?_; rintro e w' ⟨rfl, rfl⟩))
            all_goals
              have HS9 := hide (St.setFlat (d := memberD) (x' := { b with role := (maxI b.role (heirI (dropP (idIs id) r.members))) }) (j := 1) (u := .int .i64 (maxI b.role (heirI (dropP (idIs id) r.members)))) rfl HS8.out HBB.out (by omega) rfl rfl)
              go_wp2_with fail
              refine bodyPost_ret (v := .tuple #[.agg #[.bool r.open_, .slice (some ⟨q, 0, none⟩) (dropP (idIs id) r.members).length c7, .slice B2 r.invites.length e2, .slice B3 r.bans.length e3], .bool true]) (by simp [results, Try.results14, go_sem, x1_0, x1_1, x1_2, x1_3, xf1, xz8]) rfl ?_
              rw [HV9.out, HOK.out, HEQ.out]
              exact St.ret2 (cs := [.bool r.open_, .slice (some ⟨q, 0, none⟩) (dropP (idIs id) r.members).length c7, .slice B2 r.invites.length e2, .slice B3 r.bans.length e3]) (F := F7 ++ (F2 ++ F3)) (St.room2 (x := { r with members := (dropP (idIs id) r.members).set k { b with role := (maxI b.role (heirI (dropP (idIs id) r.members))) } }) (by (repeat (first | (with_reducible exact HS9.out.drop1) | (with_reducible apply St.alloc) | (with_reducible apply St.set0) | (with_reducible apply St.set1) | (with_reducible apply St.set2) | (with_reducible apply St.set3) | (with_reducible apply St.drew) | (with_reducible apply St.drewN))); all_goals (try (first | rfl | (simp; done))))) rfl
    · have hk0 : decide (idxP (idIs id) r.members < 0) = true := decide_eq_true (by omega)
      have HOK := hide (show chOk r (leaveF id) = false by simp [chOk, leaveF, hasId, hn])
      clear hv hn
      go_enter Try.func14, Try.ntmps14
      go_wp2_with (first
        | (go_at_call 20
           refine (l02Is_c r _ _ _ (Blk.rowAt (d := roomD) (x := r) HS0.out.at1 (room_K_mk (H1.out.below HS0.out.below) (H2.out.below HS0.out.below) (H3.out.below HS0.out.below)) rfl)).mono ?_
           rintro e w1 ⟨rfl, hb⟩
           rw [HV.out]
           have HS1 := hide (HS0.out.by hb)
           (try clear x1_0 x1_1 x1_2 x1_3 xf1 xz1)
           obtain ⟨x1_0, x1_1, x1_2, x1_3⟩ := HS1.out.at0.c4
           have xf1 := HS1.out.at0.frozen
           have xz1 := HS1.out.at0.lt
           clear hb)
        | (go_at_call 34
           refine (l02Find_c r _ _ id _ (Blk.rowAt (d := roomD) (x := r) HS1.out.at1 (room_K_mk (H1.out.below HS1.out.below) (H2.out.below HS1.out.below) (H3.out.below HS1.out.below)) rfl)).mono ?_
           rintro e w2 ⟨rfl, hb⟩
           skip
           have HS2 := hide (HS1.out.by hb)
           (try clear x1_0 x1_1 x1_2 x1_3 xf1 xz1)
           obtain ⟨x1_0, x1_1, x1_2, x1_3⟩ := HS2.out.at0.c4
           have xf1 := HS2.out.at0.frozen
           have xz1 := HS2.out.at0.lt
           clear hb))
      refine bodyPost_ret (v := .tuple #[.agg #[.bool false, .slice none 0 0, .slice none 0 0, .slice none 0 0], .bool false]) (by simp [results, Try.results14, go_sem, x1_0, x1_1, x1_2, x1_3, xf1, xz1]) rfl ?_
      rw [chR_no HOK.out, HOK.out]
      exact St.ret2 (cs := [.bool false, .slice none 0 0, .slice none 0 0, .slice none 0 0]) (F := []) (St.noRoom (by (repeat (first | (with_reducible exact HS2.out) | (with_reducible apply St.alloc) | (with_reducible apply St.set0) | (with_reducible apply St.set1) | (with_reducible apply St.set2) | (with_reducible apply St.set3) | (with_reducible apply St.drew) | (with_reducible apply St.drewN))); all_goals (try (first | rfl | (simp; done))))) rfl
  · have HV := hide (show validRoomB r = false by simpa using hv)
    have HOK := hide (show chOk r (leaveF id) = false by simp [chOk, HV.out])
    clear hv
    go_enter Try.func14, Try.ntmps14
    go_wp2_with (
      (go_at_call 20
       refine (l02Is_c r _ _ _ (Blk.rowAt (d := roomD) (x := r) HS0.out.at1 (room_K_mk (H1.out.below HS0.out.below) (H2.out.below HS0.out.below) (H3.out.below HS0.out.below)) rfl)).mono ?_
       rintro e w1 ⟨rfl, hb⟩
       rw [HV.out]
       have HS1 := hide (HS0.out.by hb)
       (try clear x1_0 x1_1 x1_2 x1_3 xf1 xz1)
       obtain ⟨x1_0, x1_1, x1_2, x1_3⟩ := HS1.out.at0.c4
       have xf1 := HS1.out.at0.frozen
       have xz1 := HS1.out.at0.lt
       clear hb))
    refine bodyPost_ret (v := .tuple #[.agg #[.bool false, .slice none 0 0, .slice none 0 0, .slice none 0 0], .bool false]) (by simp [results, Try.results14, go_sem, x1_0, x1_1, x1_2, x1_3, xf1, xz1]) rfl ?_
    rw [chR_no HOK.out, HOK.out]
    exact St.ret2 (cs := [.bool false, .slice none 0 0, .slice none 0 0, .slice none 0 0]) (F := []) (St.noRoom (by (repeat (first | (with_reducible exact HS1.out) | (with_reducible apply St.alloc) | (with_reducible apply St.set0) | (with_reducible apply St.set1) | (with_reducible apply St.set2) | (with_reducible apply St.set3) | (with_reducible apply St.drew) | (with_reducible apply St.drewN))); all_goals (try (first | rfl | (simp; done))))) rfl
end Go.Proofs.Ytnglccgbenlbjaa
