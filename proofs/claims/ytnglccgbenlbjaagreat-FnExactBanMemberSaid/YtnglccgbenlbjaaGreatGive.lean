/- A room is given, if it is valid: the reference. -/
import Derived.Test.YtnglccgbenlbjaaGreatSpecRoom
import Derived.Test.YtnglccgbenlbjaaGreatRoomPlain2
namespace Go.Proofs.YtnglccgbenlbjaaGreat
open Go Go.RowKit Go.BigFrame
set_option linter.unusedVariables false
set_option linter.unusedSimpArgs false
set_option maxHeartbeats 4000000 in
set_option maxRecDepth 100000 in
theorem l02Give_yes (r : Room) (A1 A2 A3 : Option Addr) (n1 n2 n3 c1 c2 c3 : Nat) (w : World) (h1 : SliceK memberD w (.slice A1 n1 c1) r.members) (h2 : SliceK inviteD w (.slice A2 n2 c2) r.invites) (h3 : SliceK banD w (.slice A3 n3 c3) r.bans) (hv : validRoomB r = true) :
    Calls Tryz.prog 29 #[.agg #[.bool r.open_, .slice A1 n1 c1, .slice A2 n2 c2, .slice A3 n3 c3]] w fun e w' => e = .returned (.tuple #[.agg #[.bool r.open_, .slice A1 n1 c1, .slice A2 n2 c2, .slice A3 n3 c3], .bool true]) ∧ Below w.heap.size w w' := by
  obtain rfl : n1 = r.members.length := by obtain ⟨_, _, h, _⟩ := h1; simp at h; exact h.2.1
  obtain rfl : n2 = r.invites.length := by obtain ⟨_, _, h, _⟩ := h2; simp at h; exact h.2.1
  obtain rfl : n3 = r.bans.length := by obtain ⟨_, _, h, _⟩ := h3; simp at h; exact h.2.1
  have H1 := hide h1
  have H2 := hide h2
  have H3 := hide h3
  have HV := hide hv
  clear h1 h2 h3 hv
  have HS0 := hide (show St w ((w.alloc (.cells #[.bool r.open_, .slice A1 r.members.length c1, .slice A2 r.invites.length c2, .slice A3 r.bans.length c3] 32)).alloc (.cells #[.bool false, .slice none 0 0, .slice none 0 0, .slice none 0 0] 32)) [blk (w.heap.size + 1) #[.bool false, .slice none 0 0, .slice none 0 0, .slice none 0 0] 32, blk w.heap.size #[.bool r.open_, .slice A1 r.members.length c1, .slice A2 r.invites.length c2, .slice A3 r.bans.length c3] 32] from (((St.start w).alloc rfl).alloc (by simp)))
  go_enter Tryz.func29, Tryz.ntmps29
  go_wp2_with (
    go_at_call 20
    refine (l02Is_c r _ _ _ (Blk.rowAt (d := roomD) (x := r) HS0.out.at1 (room_K_mk (H1.out.below HS0.out.below) (H2.out.below HS0.out.below) (H3.out.below HS0.out.below)) rfl)).mono ?_
    rintro e w1 ⟨rfl, hb⟩
    rw [HV.out]
    have HS1 := hide (HS0.out.by hb)
    obtain ⟨x1_0, x1_1, x1_2, x1_3⟩ := HS1.out.at0.c4
    have xf1 := HS1.out.at0.frozen
    have xz1 := HS1.out.at0.lt
    obtain ⟨y1_0, y1_1, y1_2, y1_3⟩ := HS1.out.at1.c4
    have yz1 := HS1.out.at1.lt
    clear hb)
  refine bodyPost_ret (v := .tuple #[.agg #[.bool r.open_, .slice A1 r.members.length c1, .slice A2 r.invites.length c2, .slice A3 r.bans.length c3], .bool true]) (by simp [results, Tryz.results29, go_sem, x1_0, x1_1, x1_2, x1_3, xf1, xz1]) rfl ⟨rfl, ?_⟩
  exact St.below (L := [blk (w.heap.size + 1) #[.bool r.open_, .slice A1 r.members.length c1, .slice A2 r.invites.length c2, .slice A3 r.bans.length c3] 32, blk w.heap.size #[.bool r.open_, .slice A1 r.members.length c1, .slice A2 r.invites.length c2, .slice A3 r.bans.length c3] 32]) (by (repeat (first | (with_reducible exact HS1.out) | (with_reducible apply St.alloc) | (with_reducible apply St.set0) | (with_reducible apply St.set1) | (with_reducible apply St.set2) | (with_reducible apply St.set3) | (with_reducible apply St.drew) | (with_reducible apply St.drewN))); all_goals (try (first | rfl | (simp; done))))
set_option maxHeartbeats 4000000 in
set_option maxRecDepth 100000 in
theorem l02Give_no (r : Room) (A1 A2 A3 : Option Addr) (n1 n2 n3 c1 c2 c3 : Nat) (w : World) (h1 : SliceK memberD w (.slice A1 n1 c1) r.members) (h2 : SliceK inviteD w (.slice A2 n2 c2) r.invites) (h3 : SliceK banD w (.slice A3 n3 c3) r.bans) (hv : validRoomB r = false) :
    Calls Tryz.prog 29 #[.agg #[.bool r.open_, .slice A1 n1 c1, .slice A2 n2 c2, .slice A3 n3 c3]] w fun e w' => e = .returned (.tuple #[.agg #[.bool false, .slice none 0 0, .slice none 0 0, .slice none 0 0], .bool false]) ∧ Below w.heap.size w w' := by
  obtain rfl : n1 = r.members.length := by obtain ⟨_, _, h, _⟩ := h1; simp at h; exact h.2.1
  obtain rfl : n2 = r.invites.length := by obtain ⟨_, _, h, _⟩ := h2; simp at h; exact h.2.1
  obtain rfl : n3 = r.bans.length := by obtain ⟨_, _, h, _⟩ := h3; simp at h; exact h.2.1
  have H1 := hide h1
  have H2 := hide h2
  have H3 := hide h3
  have HV := hide hv
  clear h1 h2 h3 hv
  have HS0 := hide (show St w ((w.alloc (.cells #[.bool r.open_, .slice A1 r.members.length c1, .slice A2 r.invites.length c2, .slice A3 r.bans.length c3] 32)).alloc (.cells #[.bool false, .slice none 0 0, .slice none 0 0, .slice none 0 0] 32)) [blk (w.heap.size + 1) #[.bool false, .slice none 0 0, .slice none 0 0, .slice none 0 0] 32, blk w.heap.size #[.bool r.open_, .slice A1 r.members.length c1, .slice A2 r.invites.length c2, .slice A3 r.bans.length c3] 32] from (((St.start w).alloc rfl).alloc (by simp)))
  go_enter Tryz.func29, Tryz.ntmps29
  go_wp2_with (
    go_at_call 20
    refine (l02Is_c r _ _ _ (Blk.rowAt (d := roomD) (x := r) HS0.out.at1 (room_K_mk (H1.out.below HS0.out.below) (H2.out.below HS0.out.below) (H3.out.below HS0.out.below)) rfl)).mono ?_
    rintro e w1 ⟨rfl, hb⟩
    rw [HV.out]
    have HS1 := hide (HS0.out.by hb)
    obtain ⟨x1_0, x1_1, x1_2, x1_3⟩ := HS1.out.at0.c4
    have xf1 := HS1.out.at0.frozen
    have xz1 := HS1.out.at0.lt
    obtain ⟨y1_0, y1_1, y1_2, y1_3⟩ := HS1.out.at1.c4
    have yz1 := HS1.out.at1.lt
    clear hb)
  refine bodyPost_ret (v := .tuple #[.agg #[.bool false, .slice none 0 0, .slice none 0 0, .slice none 0 0], .bool false]) (by simp [results, Tryz.results29, go_sem, x1_0, x1_1, x1_2, x1_3, xf1, xz1]) rfl ⟨rfl, ?_⟩
  exact St.below (L := [blk (w.heap.size + 1) #[.bool false, .slice none 0 0, .slice none 0 0, .slice none 0 0] 32, blk w.heap.size #[.bool r.open_, .slice A1 r.members.length c1, .slice A2 r.invites.length c2, .slice A3 r.bans.length c3] 32]) (by (repeat (first | (with_reducible exact HS1.out) | (with_reducible apply St.alloc) | (with_reducible apply St.set0) | (with_reducible apply St.set1) | (with_reducible apply St.set2) | (with_reducible apply St.set3) | (with_reducible apply St.drew) | (with_reducible apply St.drewN))); all_goals (try (first | rfl | (simp; done))))
end Go.Proofs.YtnglccgbenlbjaaGreat
