/- SameRoom, where the rooms are the same. -/
import Derived.Test.YtglhepbcbildpaaR8
import Derived.Deep.RegionHeld3
namespace Go.Proofs.Ytglhepbcbildpaa
open Go Go.RowKit Go.BigFrame
set_option linter.unusedVariables false
set_option linter.unusedSimpArgs false
set_option maxRecDepth 100000
theorem sameMember_ne (x : Member) (w : World) : (binOp .neq 55 (.agg #[.int .i64 x.id, .int .i64 x.role, .int .i64 x.since, .int .i64 x.quiet]) (.agg #[.int .i64 x.id, .int .i64 x.role, .int .i64 x.since, .int .i64 x.quiet])).run Try.prog w = .ok (.bool false) w := by
  have hs : (Try.prog).stoodInHeld 55 = false := by kernel_rfl
  have hu : Try.prog.underlying 2 = some (.int .i64) := Try.underlying2
  rw [run_neq_struct, run_equalIn_agg (ht := by kernel_rfl) (hp := hs)]
  have hl : ((Try.prog).fieldsOf 55).toList.length = 4 := by kernel_rfl
  rw [eqFields_ints (d := 9998) (k := 0) hu w _ [x.id, x.role, x.since, x.quiet] [x.id, x.role, x.since, x.quiet] _ _ (by rw [hl]; kernel_rfl) (by rw [hl]; rfl) (by rw [hl]; rfl) ?_ ?_]
  · simp
  · intro j u hu
    match j, hu with
    | 0, hu => cases hu; simp [go_sem]
    | 1, hu => cases hu; simp [go_sem]
    | 2, hu => cases hu; simp [go_sem]
    | 3, hu => cases hu; simp [go_sem]
    | _ + 4, hu => simp at hu
  · intro j u hu
    match j, hu with
    | 0, hu => cases hu; simp [go_sem]
    | 1, hu => cases hu; simp [go_sem]
    | 2, hu => cases hu; simp [go_sem]
    | 3, hu => cases hu; simp [go_sem]
    | _ + 4, hu => simp at hu
theorem guardMember : (Try.prog).eqGuardType (Try.prog).depth 55 = false := by kernel_rfl
attribute [local go_sem ↓] sameMember_ne
attribute [local go_sem] guardMember
set_option maxHeartbeats 4000000 in
theorem equalMember_c (xs : List Member) (v u : Value) (w : World) (h1 : SliceK memberD w v xs) (h2 : SliceK memberD w u xs) :
    Calls Try.prog 25 #[v, u] w fun e w' => e = .returned (.bool true) ∧ Below w.heap.size w w' := by
  obtain ⟨A, c, rfl, hl, hm, hra⟩ := h1
  obtain ⟨B, d, rfl, hl2, hm2, hrb⟩ := h2
  have HA := hide hra
  have HB := hide hrb
  clear hra hrb
  go_enter Try.func25, Try.ntmps25
  go_wp2_with fail
  go_loopg [5, 13] xs.length (fun gg s5 s13 wr => ∃ k : Nat, k ≤ xs.length ∧ xs.length - k ≤ gg ∧ s13 = .int .i64 k ∧ Hid (Below w.heap.size w wr))
  case atStart => exact ⟨0, Nat.zero_le _, by omega, rfl, hide (Below.refl _ _)⟩
  case round =>
    obtain ⟨k, hk, hg, rfl, HB0⟩ := hrel
    by_cases hlt : k < xs.length
    · obtain ⟨x, hx⟩ : ∃ x, xs[k]? = some x := ⟨_, List.getElem?_eq_getElem hlt⟩
      rcases HA.out with hnil | ⟨q, o2, rfl, hra⟩
      · rw [hnil] at hx; simp at hx
      rcases HB.out with hnil | ⟨q3, o3, rfl, hrb⟩
      · rw [hnil] at hx; simp at hx
      obtain ⟨hq, hc0, hc1, hc2, hc3⟩ := member_at hra HB0.out hx
      obtain ⟨hq3, hd0, hd1, hd2, hd3⟩ := member_at hrb HB0.out hx
      have hlt2 : (k : Int) < (xs.length : Int) := by omega
      clear hx hra hrb
      go_wp2_with fail
      go_quiet (fail)
      go_wp2_with fail
      go_roundg (xs.length - (k + 1))
      case measure => omega
      case rel => exact ⟨k + 1, by omega, by omega, by go_num, hide (below_drewN HB0.out _)⟩
    · obtain rfl : k = xs.length := by omega
      go_wp2_with fail
      go_ret
      exact ⟨rfl, HB0.out⟩
theorem sameInvite_ne (x : Invite) (w : World) : (binOp .neq 39 (.agg #[.int .i64 x.id, .int .i64 x.by_, .int .i64 x.until_]) (.agg #[.int .i64 x.id, .int .i64 x.by_, .int .i64 x.until_])).run Try.prog w = .ok (.bool false) w := by
  have hs : (Try.prog).stoodInHeld 39 = false := by kernel_rfl
  have hu : Try.prog.underlying 2 = some (.int .i64) := Try.underlying2
  rw [run_neq_struct, run_equalIn_agg (ht := by kernel_rfl) (hp := hs)]
  have hl : ((Try.prog).fieldsOf 39).toList.length = 3 := by kernel_rfl
  rw [eqFields_ints (d := 9998) (k := 0) hu w _ [x.id, x.by_, x.until_] [x.id, x.by_, x.until_] _ _ (by rw [hl]; kernel_rfl) (by rw [hl]; rfl) (by rw [hl]; rfl) ?_ ?_]
  · simp
  · intro j u hu
    match j, hu with
    | 0, hu => cases hu; simp [go_sem]
    | 1, hu => cases hu; simp [go_sem]
    | 2, hu => cases hu; simp [go_sem]
    | _ + 3, hu => simp at hu
  · intro j u hu
    match j, hu with
    | 0, hu => cases hu; simp [go_sem]
    | 1, hu => cases hu; simp [go_sem]
    | 2, hu => cases hu; simp [go_sem]
    | _ + 3, hu => simp at hu
theorem guardInvite : (Try.prog).eqGuardType (Try.prog).depth 39 = false := by kernel_rfl
attribute [local go_sem ↓] sameInvite_ne
attribute [local go_sem] guardInvite
set_option maxHeartbeats 4000000 in
theorem equalInvite_c (xs : List Invite) (v u : Value) (w : World) (h1 : SliceK inviteD w v xs) (h2 : SliceK inviteD w u xs) :
    Calls Try.prog 26 #[v, u] w fun e w' => e = .returned (.bool true) ∧ Below w.heap.size w w' := by
  obtain ⟨A, c, rfl, hl, hm, hra⟩ := h1
  obtain ⟨B, d, rfl, hl2, hm2, hrb⟩ := h2
  have HA := hide hra
  have HB := hide hrb
  clear hra hrb
  go_enter Try.func26, Try.ntmps26
  go_wp2_with fail
  go_loopg [5, 13] xs.length (fun gg s5 s13 wr => ∃ k : Nat, k ≤ xs.length ∧ xs.length - k ≤ gg ∧ s13 = .int .i64 k ∧ Hid (Below w.heap.size w wr))
  case atStart => exact ⟨0, Nat.zero_le _, by omega, rfl, hide (Below.refl _ _)⟩
  case round =>
    obtain ⟨k, hk, hg, rfl, HB0⟩ := hrel
    by_cases hlt : k < xs.length
    · obtain ⟨x, hx⟩ : ∃ x, xs[k]? = some x := ⟨_, List.getElem?_eq_getElem hlt⟩
      rcases HA.out with hnil | ⟨q, o2, rfl, hra⟩
      · rw [hnil] at hx; simp at hx
      rcases HB.out with hnil | ⟨q3, o3, rfl, hrb⟩
      · rw [hnil] at hx; simp at hx
      obtain ⟨hq, hc0, hc1, hc2⟩ := invite_at hra HB0.out hx
      obtain ⟨hq3, hd0, hd1, hd2⟩ := invite_at hrb HB0.out hx
      have hlt2 : (k : Int) < (xs.length : Int) := by omega
      clear hx hra hrb
      go_wp2_with fail
      go_quiet (fail)
      go_wp2_with fail
      go_roundg (xs.length - (k + 1))
      case measure => omega
      case rel => exact ⟨k + 1, by omega, by omega, by go_num, hide (below_drewN HB0.out _)⟩
    · obtain rfl : k = xs.length := by omega
      go_wp2_with fail
      go_ret
      exact ⟨rfl, HB0.out⟩
theorem sameBan_ne (x : Ban) (w : World) : (binOp .neq 41 (.agg #[.int .i64 x.id, .int .i64 x.until_]) (.agg #[.int .i64 x.id, .int .i64 x.until_])).run Try.prog w = .ok (.bool false) w := by
  have hs : (Try.prog).stoodInHeld 41 = false := by kernel_rfl
  have hu : Try.prog.underlying 2 = some (.int .i64) := Try.underlying2
  rw [run_neq_struct, run_equalIn_agg (ht := by kernel_rfl) (hp := hs)]
  have hl : ((Try.prog).fieldsOf 41).toList.length = 2 := by kernel_rfl
  rw [eqFields_ints (d := 9998) (k := 0) hu w _ [x.id, x.until_] [x.id, x.until_] _ _ (by rw [hl]; kernel_rfl) (by rw [hl]; rfl) (by rw [hl]; rfl) ?_ ?_]
  · simp
  · intro j u hu
    match j, hu with
    | 0, hu => cases hu; simp [go_sem]
    | 1, hu => cases hu; simp [go_sem]
    | _ + 2, hu => simp at hu
  · intro j u hu
    match j, hu with
    | 0, hu => cases hu; simp [go_sem]
    | 1, hu => cases hu; simp [go_sem]
    | _ + 2, hu => simp at hu
theorem guardBan : (Try.prog).eqGuardType (Try.prog).depth 41 = false := by kernel_rfl
attribute [local go_sem ↓] sameBan_ne
attribute [local go_sem] guardBan
set_option maxHeartbeats 4000000 in
theorem equalBan_c (xs : List Ban) (v u : Value) (w : World) (h1 : SliceK banD w v xs) (h2 : SliceK banD w u xs) :
    Calls Try.prog 27 #[v, u] w fun e w' => e = .returned (.bool true) ∧ Below w.heap.size w w' := by
  obtain ⟨A, c, rfl, hl, hm, hra⟩ := h1
  obtain ⟨B, d, rfl, hl2, hm2, hrb⟩ := h2
  have HA := hide hra
  have HB := hide hrb
  clear hra hrb
  go_enter Try.func27, Try.ntmps27
  go_wp2_with fail
  go_loopg [5, 13] xs.length (fun gg s5 s13 wr => ∃ k : Nat, k ≤ xs.length ∧ xs.length - k ≤ gg ∧ s13 = .int .i64 k ∧ Hid (Below w.heap.size w wr))
  case atStart => exact ⟨0, Nat.zero_le _, by omega, rfl, hide (Below.refl _ _)⟩
  case round =>
    obtain ⟨k, hk, hg, rfl, HB0⟩ := hrel
    by_cases hlt : k < xs.length
    · obtain ⟨x, hx⟩ : ∃ x, xs[k]? = some x := ⟨_, List.getElem?_eq_getElem hlt⟩
      rcases HA.out with hnil | ⟨q, o2, rfl, hra⟩
      · rw [hnil] at hx; simp at hx
      rcases HB.out with hnil | ⟨q3, o3, rfl, hrb⟩
      · rw [hnil] at hx; simp at hx
      obtain ⟨hq, hc0, hc1⟩ := ban_at hra HB0.out hx
      obtain ⟨hq3, hd0, hd1⟩ := ban_at hrb HB0.out hx
      have hlt2 : (k : Int) < (xs.length : Int) := by omega
      clear hx hra hrb
      go_wp2_with fail
      go_quiet (fail)
      go_wp2_with fail
      go_roundg (xs.length - (k + 1))
      case measure => omega
      case rel => exact ⟨k + 1, by omega, by omega, by go_num, hide (below_drewN HB0.out _)⟩
    · obtain rfl : k = xs.length := by omega
      go_wp2_with fail
      go_ret
      exact ⟨rfl, HB0.out⟩
set_option maxHeartbeats 4000000 in
theorem sameRoom_c (r : Room) (v1 v2 v3 u1 u2 u3 : Value) (w : World) (h1 : SliceK memberD w v1 r.members) (h2 : SliceK inviteD w v2 r.invites) (h3 : SliceK banD w v3 r.bans) (k1 : SliceK memberD w u1 r.members) (k2 : SliceK inviteD w u2 r.invites) (k3 : SliceK banD w u3 r.bans) :
    Calls Try.prog 10 #[.agg #[.bool r.open_, v1, v2, v3], .agg #[.bool r.open_, u1, u2, u3]] w fun e w' => e = .returned (.bool true) ∧ Below w.heap.size w w' := by
  obtain ⟨A1, a1, rfl⟩ := h1.shape
  obtain ⟨A2, a2, rfl⟩ := h2.shape
  obtain ⟨A3, a3, rfl⟩ := h3.shape
  obtain ⟨B1, b1, rfl⟩ := k1.shape
  obtain ⟨B2, b2, rfl⟩ := k2.shape
  obtain ⟨B3, b3, rfl⟩ := k3.shape
  have H1 := hide h1
  have H2 := hide h2
  have H3 := hide h3
  have K1 := hide k1
  have K2 := hide k2
  have K3 := hide k3
  clear h1 h2 h3 k1 k2 k3
  have HS0 := hide (show St w ((w.alloc (.cells #[.bool r.open_, .slice A1 r.members.length a1, .slice A2 r.invites.length a2, .slice A3 r.bans.length a3] 28)).alloc (.cells #[.bool r.open_, .slice B1 r.members.length b1, .slice B2 r.invites.length b2, .slice B3 r.bans.length b3] 28)) [blk (w.heap.size + 1) #[.bool r.open_, .slice B1 r.members.length b1, .slice B2 r.invites.length b2, .slice B3 r.bans.length b3] 28, blk w.heap.size #[.bool r.open_, .slice A1 r.members.length a1, .slice A2 r.invites.length a2, .slice A3 r.bans.length a3] 28] by (repeat (first | (with_reducible exact St.start w) | (with_reducible apply St.alloc) | (with_reducible apply St.set0) | (with_reducible apply St.set1) | (with_reducible apply St.set2) | (with_reducible apply St.set3) | (with_reducible apply St.drew) | (with_reducible apply St.drewN))); all_goals (try (first | rfl | (simp; done))))
  (try clear x0 x1 x2 x3 xz y0 y1 y2 y3 yz)
  obtain ⟨x0, x1, x2, x3⟩ := (HS0.out.at1).c4
  have xz := (HS0.out.at1).lt
  obtain ⟨y0, y1, y2, y3⟩ := (HS0.out.at0).c4
  have yz := (HS0.out.at0).lt
  go_enter Try.func10, Try.ntmps10
  go_wp2_with fail
  refine (equalMember_c _ _ _ _ (H1.out.below HS0.out.below) (K1.out.below HS0.out.below)).mono ?_
  rintro e w1 ⟨rfl, hb⟩
  have HS1 := hide (HS0.out.by hb)
  clear hb
  (try clear x0 x1 x2 x3 xz y0 y1 y2 y3 yz)
  obtain ⟨x0, x1, x2, x3⟩ := (HS1.out.at1).c4
  have xz := (HS1.out.at1).lt
  obtain ⟨y0, y1, y2, y3⟩ := (HS1.out.at0).c4
  have yz := (HS1.out.at0).lt
  go_wp2_with fail
  refine (equalInvite_c _ _ _ _ (H2.out.below HS1.out.below) (K2.out.below HS1.out.below)).mono ?_
  rintro e w2 ⟨rfl, hb⟩
  have HS2 := hide (HS1.out.by hb)
  clear hb
  (try clear x0 x1 x2 x3 xz y0 y1 y2 y3 yz)
  obtain ⟨x0, x1, x2, x3⟩ := (HS2.out.at1).c4
  have xz := (HS2.out.at1).lt
  obtain ⟨y0, y1, y2, y3⟩ := (HS2.out.at0).c4
  have yz := (HS2.out.at0).lt
  go_wp2_with fail
  refine (equalBan_c _ _ _ _ (H3.out.below HS2.out.below) (K3.out.below HS2.out.below)).mono ?_
  rintro e w3 ⟨rfl, hb⟩
  have HS3 := hide (HS2.out.by hb)
  clear hb
  (try clear x0 x1 x2 x3 xz y0 y1 y2 y3 yz)
  obtain ⟨x0, x1, x2, x3⟩ := (HS3.out.at1).c4
  have xz := (HS3.out.at1).lt
  obtain ⟨y0, y1, y2, y3⟩ := (HS3.out.at0).c4
  have yz := (HS3.out.at0).lt
  go_wp2_with fail
  go_ret
  exact ⟨rfl, HS3.out.below⟩
end Go.Proofs.Ytglhepbcbildpaa
