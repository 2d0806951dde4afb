/- Who is in a room: the program and the reference. -/
import Derived.Test.YtglhepbcbildpaaRTypes
import Derived.Test.YtglhepbcbildpaaRGround
import Derived.Shelf.Abstract
namespace Go.Proofs.Ytglhepbcbildpaa
open Go Go.RowKit Go.BigFrame
attribute [local go_sem] Calm.cell Calm.frozen
set_option linter.unusedVariables false
set_option linter.unusedSimpArgs false

set_option maxHeartbeats 4000000 in
theorem indexMember_c (g : Nat) (caps : Array Value) (p : Member → Bool) (ms : List Member) (v : Value) (w : World) (hm : SliceK memberD w v ms)
    (eg : ∀ args w, (callFunc g args).run Try.prog w = .ok (.enter g args) w)
    (hc : ∀ (m : Member) (W : World), Below w.heap.size w W → Calls Try.prog g (#[.agg #[.int .i64 m.id, .int .i64 m.role, .int .i64 m.since, .int .i64 m.quiet]] ++ caps) W fun e W' => e = .returned (.bool (p m)) ∧ Below W.heap.size W W') :
    Calls Try.prog 49 #[v, .func (.func g) #[] caps] w fun e w' => e = .returned (.int .i64 (idxP p ms)) ∧ Below w.heap.size w w' := by
  obtain ⟨A, c, rfl, hl, hmx, hra⟩ := hm
  have HA := hide hra
  have HC := hide hc
  clear hra hc
  go_enter Try.func49, Try.ntmps49
  go_wp2_with fail
  go_loopg [8] ms.length (fun gg s8 wr => ∃ k : Nat, k ≤ ms.length ∧ ms.length - k ≤ gg ∧ s8 = .int .i64 k ∧ Hid (∀ j y, j < k → ms[j]? = some y → p y = false) ∧ Hid (Below w.heap.size w wr))
  case atStart => exact ⟨0, Nat.zero_le _, by omega, rfl, hide (by intro j y hj; omega), Below.refl _ _⟩
  case round =>
    obtain ⟨k, hk, hg, rfl, HT, HB⟩ := hrel
    by_cases hlt : k < ms.length
    · obtain ⟨m, hx⟩ : ∃ m, ms[k]? = some m := ⟨_, List.getElem?_eq_getElem hlt⟩
      rcases HA.out with hnil | ⟨q, o2, rfl, hra⟩
      · rw [hnil] at hlt; simp at hlt
      obtain ⟨hq, hc0, hc1, hc2, hc3⟩ := member_at hra HB.out hx
      have HX := hide hx
      have hlt2 : (k : Int) < (ms.length : Int) := by omega
      clear hx hra HA
      by_cases hpm : p m = true
      · have HPM := hide hpm
        clear hpm
        go_wp2_with (first
          | (go_at_fn g
             refine (HC.out m _ HB.out).mono ?_
             rintro e w1 ⟨rfl, hb⟩
             rw [HPM.out]
             have HN := hide (HB.out.trans (hb.mono HB.out.size))
             clear hb))
        go_ret
        exact ⟨by rw [idxP_hit HT.out HX.out HPM.out]; rfl, HN.out⟩
      · have HPM := hide (show p m = false by simpa using hpm)
        clear hpm
        go_wp2_with (first
          | (go_at_fn g
             refine (HC.out m _ HB.out).mono ?_
             rintro e w1 ⟨rfl, hb⟩
             rw [HPM.out]
             have HN := hide (HB.out.trans (hb.mono HB.out.size))
             clear hb))
        go_roundg (ms.length - (k + 1))
        case measure => omega
        case rel => exact ⟨k + 1, by omega, by omega, by go_num, hide (idxP_step HT.out HX.out HPM.out), HN⟩
    · have : k = ms.length := by omega
      subst this
      have hr := hide (idxP_miss HT.out)
      clear HA HC
      go_wp2_with fail
      go_ret
      exact ⟨by rw [hr.out]; rfl, HB.out⟩
set_option maxHeartbeats 4000000 in
theorem indexInvite_c (g : Nat) (caps : Array Value) (p : Invite → Bool) (ms : List Invite) (v : Value) (w : World) (hm : SliceK inviteD w v ms)
    (eg : ∀ args w, (callFunc g args).run Try.prog w = .ok (.enter g args) w)
    (hc : ∀ (m : Invite) (W : World), Below w.heap.size w W → Calls Try.prog g (#[.agg #[.int .i64 m.id, .int .i64 m.by_, .int .i64 m.until_]] ++ caps) W fun e W' => e = .returned (.bool (p m)) ∧ Below W.heap.size W W') :
    Calls Try.prog 39 #[v, .func (.func g) #[] caps] w fun e w' => e = .returned (.int .i64 (idxP p ms)) ∧ Below w.heap.size w w' := by
  obtain ⟨A, c, rfl, hl, hmx, hra⟩ := hm
  have HA := hide hra
  have HC := hide hc
  clear hra hc
  go_enter Try.func39, Try.ntmps39
  go_wp2_with fail
  go_loopg [8] ms.length (fun gg s8 wr => ∃ k : Nat, k ≤ ms.length ∧ ms.length - k ≤ gg ∧ s8 = .int .i64 k ∧ Hid (∀ j y, j < k → ms[j]? = some y → p y = false) ∧ Hid (Below w.heap.size w wr))
  case atStart => exact ⟨0, Nat.zero_le _, by omega, rfl, hide (by intro j y hj; omega), Below.refl _ _⟩
  case round =>
    obtain ⟨k, hk, hg, rfl, HT, HB⟩ := hrel
    by_cases hlt : k < ms.length
    · obtain ⟨m, hx⟩ : ∃ m, ms[k]? = some m := ⟨_, List.getElem?_eq_getElem hlt⟩
      rcases HA.out with hnil | ⟨q, o2, rfl, hra⟩
      · rw [hnil] at hlt; simp at hlt
      obtain ⟨hq, hc0, hc1, hc2⟩ := invite_at hra HB.out hx
      have HX := hide hx
      have hlt2 : (k : Int) < (ms.length : Int) := by omega
      clear hx hra HA
      by_cases hpm : p m = true
      · have HPM := hide hpm
        clear hpm
        go_wp2_with (first
          | (go_at_fn g
             refine (HC.out m _ HB.out).mono ?_
             rintro e w1 ⟨rfl, hb⟩
             rw [HPM.out]
             have HN := hide (HB.out.trans (hb.mono HB.out.size))
             clear hb))
        go_ret
        exact ⟨by rw [idxP_hit HT.out HX.out HPM.out]; rfl, HN.out⟩
      · have HPM := hide (show p m = false by simpa using hpm)
        clear hpm
        go_wp2_with (first
          | (go_at_fn g
             refine (HC.out m _ HB.out).mono ?_
             rintro e w1 ⟨rfl, hb⟩
             rw [HPM.out]
             have HN := hide (HB.out.trans (hb.mono HB.out.size))
             clear hb))
        go_roundg (ms.length - (k + 1))
        case measure => omega
        case rel => exact ⟨k + 1, by omega, by omega, by go_num, hide (idxP_step HT.out HX.out HPM.out), HN⟩
    · have : k = ms.length := by omega
      subst this
      have hr := hide (idxP_miss HT.out)
      clear HA HC
      go_wp2_with fail
      go_ret
      exact ⟨by rw [hr.out]; rfl, HB.out⟩
set_option maxHeartbeats 4000000 in
theorem containsInvite_c (g : Nat) (caps : Array Value) (p : Invite → Bool) (ms : List Invite) (v : Value) (w : World) (hm : SliceK inviteD w v ms)
    (eg : ∀ args w, (callFunc g args).run Try.prog w = .ok (.enter g args) w)
    (hc : ∀ (m : Invite) (W : World), Below w.heap.size w W → Calls Try.prog g (#[.agg #[.int .i64 m.id, .int .i64 m.by_, .int .i64 m.until_]] ++ caps) W fun e W' => e = .returned (.bool (p m)) ∧ Below W.heap.size W W') :
    Calls Try.prog 46 #[v, .func (.func g) #[] caps] w fun e w' => e = .returned (.bool (decide (0 ≤ idxP p ms))) ∧ Below w.heap.size w w' := by
  obtain ⟨A, c, rfl⟩ := hm.shape
  have HM := hide hm
  have HC := hide hc
  clear hm hc
  go_enter Try.func46, Try.ntmps46
  go_wp2_with (go_at_call 39
               refine (indexInvite_c g caps p ms _ _ HM.out eg HC.out).mono ?_
               rintro e w1 ⟨rfl, hb⟩
               have HN := hide hb
               clear hb)
  go_ret
  exact ⟨rfl, HN.out⟩
set_option maxHeartbeats 4000000 in
theorem indexBan_c (g : Nat) (caps : Array Value) (p : Ban → Bool) (ms : List Ban) (v : Value) (w : World) (hm : SliceK banD w v ms)
    (eg : ∀ args w, (callFunc g args).run Try.prog w = .ok (.enter g args) w)
    (hc : ∀ (m : Ban) (W : World), Below w.heap.size w W → Calls Try.prog g (#[.agg #[.int .i64 m.id, .int .i64 m.until_]] ++ caps) W fun e W' => e = .returned (.bool (p m)) ∧ Below W.heap.size W W') :
    Calls Try.prog 40 #[v, .func (.func g) #[] caps] w fun e w' => e = .returned (.int .i64 (idxP p ms)) ∧ Below w.heap.size w w' := by
  obtain ⟨A, c, rfl, hl, hmx, hra⟩ := hm
  have HA := hide hra
  have HC := hide hc
  clear hra hc
  go_enter Try.func40, Try.ntmps40
  go_wp2_with fail
  go_loopg [8] ms.length (fun gg s8 wr => ∃ k : Nat, k ≤ ms.length ∧ ms.length - k ≤ gg ∧ s8 = .int .i64 k ∧ Hid (∀ j y, j < k → ms[j]? = some y → p y = false) ∧ Hid (Below w.heap.size w wr))
  case atStart => exact ⟨0, Nat.zero_le _, by omega, rfl, hide (by intro j y hj; omega), Below.refl _ _⟩
  case round =>
    obtain ⟨k, hk, hg, rfl, HT, HB⟩ := hrel
    by_cases hlt : k < ms.length
    · obtain ⟨m, hx⟩ : ∃ m, ms[k]? = some m := ⟨_, List.getElem?_eq_getElem hlt⟩
      rcases HA.out with hnil | ⟨q, o2, rfl, hra⟩
      · rw [hnil] at hlt; simp at hlt
      obtain ⟨hq, hc0, hc1⟩ := ban_at hra HB.out hx
      have HX := hide hx
      have hlt2 : (k : Int) < (ms.length : Int) := by omega
      clear hx hra HA
      by_cases hpm : p m = true
      · have HPM := hide hpm
        clear hpm
        go_wp2_with (first
          | (go_at_fn g
             refine (HC.out m _ HB.out).mono ?_
             rintro e w1 ⟨rfl, hb⟩
             rw [HPM.out]
             have HN := hide (HB.out.trans (hb.mono HB.out.size))
             clear hb))
        go_ret
        exact ⟨by rw [idxP_hit HT.out HX.out HPM.out]; rfl, HN.out⟩
      · have HPM := hide (show p m = false by simpa using hpm)
        clear hpm
        go_wp2_with (first
          | (go_at_fn g
             refine (HC.out m _ HB.out).mono ?_
             rintro e w1 ⟨rfl, hb⟩
             rw [HPM.out]
             have HN := hide (HB.out.trans (hb.mono HB.out.size))
             clear hb))
        go_roundg (ms.length - (k + 1))
        case measure => omega
        case rel => exact ⟨k + 1, by omega, by omega, by go_num, hide (idxP_step HT.out HX.out HPM.out), HN⟩
    · have : k = ms.length := by omega
      subst this
      have hr := hide (idxP_miss HT.out)
      clear HA HC
      go_wp2_with fail
      go_ret
      exact ⟨by rw [hr.out]; rfl, HB.out⟩
set_option maxHeartbeats 1000000 in
theorem roomAt1_c (m : Member) (b1 : Nat) (n : Int) (W : World) (h1 : W.cell? ⟨b1, 0, none⟩ = some (.int .i64 n)) :
    Calls Try.prog 50 (#[.agg #[.int .i64 m.id, .int .i64 m.role, .int .i64 m.since, .int .i64 m.quiet]] ++ #[.pointer (some ⟨b1, 0, none⟩)]) W fun e W' => e = .returned (.bool (idIs n m)) ∧ Below W.heap.size W W' := by
  show Calls Try.prog 50 #[.agg #[.int .i64 m.id, .int .i64 m.role, .int .i64 m.since, .int .i64 m.quiet], .pointer (some ⟨b1, 0, none⟩)] W _
  have hl1 := World.block_lt_of_cell? W _ h1
  simp only [] at hl1
  go_enter Try.func50, Try.ntmps50
  go_wp2_with fail
  all_goals
    go_ret
    refine ⟨?_, (Below.refl _ _).alloc (Nat.le_refl _) _⟩
    refine ret_bool ?_
    first
    | (simp [idIs, *]; done)
    | (rw [Bool.eq_iff_iff]; simp [idIs, *]; done)
set_option maxHeartbeats 1000000 in
theorem roomInv1_c (m : Invite) (b1 : Nat) (n : Int) (W : World) (h1 : W.cell? ⟨b1, 0, none⟩ = some (.int .i64 n)) :
    Calls Try.prog 47 (#[.agg #[.int .i64 m.id, .int .i64 m.by_, .int .i64 m.until_]] ++ #[.pointer (some ⟨b1, 0, none⟩)]) W fun e W' => e = .returned (.bool (invIs n m)) ∧ Below W.heap.size W W' := by
  show Calls Try.prog 47 #[.agg #[.int .i64 m.id, .int .i64 m.by_, .int .i64 m.until_], .pointer (some ⟨b1, 0, none⟩)] W _
  have hl1 := World.block_lt_of_cell? W _ h1
  simp only [] at hl1
  go_enter Try.func47, Try.ntmps47
  go_wp2_with fail
  all_goals
    go_ret
    refine ⟨?_, (Below.refl _ _).alloc (Nat.le_refl _) _⟩
    refine ret_bool ?_
    first
    | (simp [invIs, *]; done)
    | (rw [Bool.eq_iff_iff]; simp [invIs, *]; done)
set_option maxHeartbeats 4000000 in
theorem roomAt_c (r : Room) (b o : Nat) (n : Int) (w : World) (hp : RowAt roomD w b o [r]) :
    Calls Try.prog 35 #[.pointer (some ⟨b, o, none⟩), .int .i64 n] w fun e w' => e = .returned (.int .i64 (idxP (idIs n) r.members)) ∧ Below w.heap.size w w' := by
  obtain ⟨v1, v2, v3, h1, h2, h3, hbz, hb0, hb1, hb2, hb3⟩ := room_at hp (Below.refl _ _) (j := 0) rfl
  simp only [Nat.zero_mul, Nat.add_zero] at hb0 hb1 hb2 hb3
  obtain ⟨A1, c1, rfl⟩ := h1.shape
  obtain ⟨A2, c2, rfl⟩ := h2.shape
  obtain ⟨A3, c3, rfl⟩ := h3.shape
  have H1 := hide h1
  have H2 := hide h2
  have H3 := hide h3
  clear h1 h2 h3 hp
  have eg := enters_of Try.func50 (by kernel_rfl) rfl
  have HW := hide ((Below.refl w.heap.size w).alloc (Nat.le_refl _) (.cells #[.int .i64 n] 2))
  have HC := hide (show (w.alloc (.cells #[.int .i64 n] 2)).cell? ⟨w.heap.size, 0, none⟩ = some (.int .i64 n) by simp)
  go_enter Try.func35, Try.ntmps35
  go_wp2_with (go_at_call 49
               refine (indexMember_c _ _ (idIs n) r.members _ _ (H1.out.below HW.out) eg (fun m W hbW => roomAt1_c m _ n W (cell_below hbW HC.out))).mono ?_
               rintro e w1 ⟨rfl, hb⟩
               have HN := hide (HW.out.trans (hb.mono HW.out.size))
               clear hb)
  go_ret
  exact ⟨rfl, HN.out⟩
set_option maxHeartbeats 4000000 in
theorem roomInv_c (r : Room) (b o : Nat) (n : Int) (w : World) (hp : RowAt roomD w b o [r]) :
    Calls Try.prog 32 #[.pointer (some ⟨b, o, none⟩), .int .i64 n] w fun e w' => e = .returned (.bool (invd r n)) ∧ Below w.heap.size w w' := by
  obtain ⟨v1, v2, v3, h1, h2, h3, hbz, hb0, hb1, hb2, hb3⟩ := room_at hp (Below.refl _ _) (j := 0) rfl
  simp only [Nat.zero_mul, Nat.add_zero] at hb0 hb1 hb2 hb3
  obtain ⟨A1, c1, rfl⟩ := h1.shape
  obtain ⟨A2, c2, rfl⟩ := h2.shape
  obtain ⟨A3, c3, rfl⟩ := h3.shape
  have H1 := hide h1
  have H2 := hide h2
  have H3 := hide h3
  clear h1 h2 h3 hp
  have eg := enters_of Try.func47 (by kernel_rfl) rfl
  have HW := hide ((Below.refl w.heap.size w).alloc (Nat.le_refl _) (.cells #[.int .i64 n] 2))
  have HC := hide (show (w.alloc (.cells #[.int .i64 n] 2)).cell? ⟨w.heap.size, 0, none⟩ = some (.int .i64 n) by simp)
  go_enter Try.func32, Try.ntmps32
  go_wp2_with (go_at_call 46
               refine (containsInvite_c _ _ (invIs n) r.invites _ _ (H2.out.below HW.out) eg (fun m W hbW => roomInv1_c m _ n W (cell_below hbW HC.out))).mono ?_
               rintro e w1 ⟨rfl, hb⟩
               have HN := hide (HW.out.trans (hb.mono HW.out.size))
               clear hb)
  go_ret
  exact ⟨rfl, HN.out⟩
set_option maxHeartbeats 4000000 in
theorem roomHas_c (r : Room) (b o : Nat) (n : Int) (w : World) (hp : RowAt roomD w b o [r]) :
    Calls Try.prog 31 #[.pointer (some ⟨b, o, none⟩), .int .i64 n] w fun e w' => e = .returned (.bool (hasId r n)) ∧ Below w.heap.size w w' := by
  have HP := hide hp
  clear hp
  go_enter Try.func31, Try.ntmps31
  go_wp2_with (go_at_call 35
               refine (roomAt_c r _ _ n _ HP.out).mono ?_
               rintro e w1 ⟨rfl, hb⟩
               have HN := hide hb
               clear hb)
  go_ret
  exact ⟨rfl, HN.out⟩
end Go.Proofs.Ytglhepbcbildpaa
