/- The law of joining: its walk. -/
import Derived.Test.YtglhepbcbildpaaGreatR8Room
import Derived.Test.YtglhepbcbildpaaGreatJoinedPlain
import Derived.Test.YtglhepbcbildpaaGreatJoin2
import Derived.Test.YtglhepbcbildpaaGreatLeave
namespace Go.Proofs.YtglhepbcbildpaaGreat
open Go Go.RowKit Go.BigFrame
set_option linter.unusedVariables false
set_option linter.unusedSimpArgs false
set_option maxRecDepth 100000
set_option maxHeartbeats 32000000 in
theorem fnJoined_c (code more : List UInt8) (v u : Value) (w : World) (hc : SliceK srcD w v code) (hm : SliceK srcD w u more) :
    Calls Tryz.prog 3 #[v, u] w fun e w' => e = .returned (.bool true) ∧ Below w.heap.size w w' := by
  obtain ⟨A, c, rfl⟩ := hc.shape
  obtain ⟨B, d, rfl⟩ := hm.shape
  have HC := hide hc
  have HM := hide hm
  clear hc hm
  go_enter Tryz.func3, Tryz.ntmps3
  go_wp2_with fail
  refine (r8Long_c _ _ _ _ _ _ _).mono ?_
  rintro e w' ⟨rfl, rfl⟩
  cases hlong : (decide (48 < code.length) || decide (48 < more.length)) with
  | true =>
    clear hlong
    go_wp2_with fail
    go_ret
    exact ⟨rfl, Below.refl _ _⟩
  | false =>
    clear hlong
    go_wp2_with fail
    refine (r8Room_c code A c _ HC.out).mono ?_
    rintro e w1 ⟨r, v1, v2, v3, F, rfl, hD, hS1⟩
    obtain ⟨g1, g2, g3⟩ := room_MK hS1.head
    obtain ⟨A1, c1, rfl⟩ := g1.shape
    obtain ⟨A2, c2, rfl⟩ := g2.shape
    obtain ⟨A3, c3, rfl⟩ := g3.shape
    have HD := hide hD
    have HS1 := hide hS1
    clear hD hS1 g1 g2 g3
    go_wp2_with fail
    obtain ⟨W2, hW2⟩ : ∃ V, V = w1.alloc (.cells #[.bool r.open_, .slice A1 r.members.length c1, .slice A2 r.invites.length c2, .slice A3 r.bans.length c3] 28) := ⟨_, rfl⟩
    rw [← hW2]
    have HS2 := hide (show St w W2 (blk w1.heap.size #[.bool r.open_, .slice A1 r.members.length c1, .slice A2 r.invites.length c2, .slice A3 r.bans.length c3] 28 :: ownD roomD r [.bool r.open_, .slice A1 r.members.length c1, .slice A2 r.invites.length c2, .slice A3 r.bans.length c3] F :: []) by rw [hW2]; (repeat (first | (with_reducible exact HS1.out) | (with_reducible apply St.alloc) | (with_reducible apply St.set0) | (with_reducible apply St.set1) | (with_reducible apply St.set2) | (with_reducible apply St.set3) | (with_reducible apply St.drew) | (with_reducible apply St.drewN))); all_goals (try (first | rfl | (simp; done))))
    clear hW2
    refine (r8At_c more B d 0 7 _ (HM.out.below HS2.out.below) (by omega) (by omega)).mono ?_
    rintro e w' ⟨n0, rfl, p0, p1, rfl⟩
    go_wp2_with fail
    refine (r8At_c more B d 1 40 _ (HM.out.below HS2.out.below) (by omega) (by omega)).mono ?_
    rintro e w' ⟨a, rfl, a0, a1, rfl⟩
    (try clear x0 x1 x2 x3 xz)
    obtain ⟨x0, x1, x2, x3⟩ := (HS2.out.at0).c4
    have xz := (HS2.out.at0).lt
    go_wp2_with fail
    obtain ⟨id, hid⟩ : ∃ id, id = 1 + n0 := ⟨_, rfl⟩
    rw [← hid]
    have i0 : 1 ≤ id := by omega
    have i1 : id ≤ 7 := by omega
    clear hid p0 p1
    refine (joinRoom_c r id a _ _ _ _ (room_MK HS2.out.drop.head).1 (room_MK HS2.out.drop.head).2.1 (room_MK HS2.out.drop.head).2.2).mono ?_
    rintro e w3 hr
    obtain ⟨cs, Fj, rfl, hK, hb, hS⟩ := HS2.out.elem2 hr
    obtain ⟨u1, u2, u3, rfl, g1, g2, g3⟩ := room_K hK
    obtain ⟨B1, d1, rfl⟩ := g1.shape
    obtain ⟨B2, d2, rfl⟩ := g2.shape
    obtain ⟨B3, d3, rfl⟩ := g3.shape
    have HS3 := hide hS
    clear hr hK hb hS g1 g2 g3
    (try clear x0 x1 x2 x3 xz)
    obtain ⟨x0, x1, x2, x3⟩ := (HS3.out.at1).c4
    have xz := (HS3.out.at1).lt
    go_wp2_with fail
    obtain ⟨W4, hW4⟩ : ∃ V, V = w3.alloc (.cells #[.bool (joinV r id a).open_, .slice B1 (joinV r id a).members.length d1, .slice B2 (joinV r id a).invites.length d2, .slice B3 (joinV r id a).bans.length d3] 28) := ⟨_, rfl⟩
    rw [← hW4]
    have HS4 := hide (show St w W4 (blk w3.heap.size #[.bool (joinV r id a).open_, .slice B1 (joinV r id a).members.length d1, .slice B2 (joinV r id a).invites.length d2, .slice B3 (joinV r id a).bans.length d3] 28 :: ownD roomD (joinV r id a) [.bool (joinV r id a).open_, .slice B1 (joinV r id a).members.length d1, .slice B2 (joinV r id a).invites.length d2, .slice B3 (joinV r id a).bans.length d3] Fj :: blk w1.heap.size #[.bool r.open_, .slice A1 r.members.length c1, .slice A2 r.invites.length c2, .slice A3 r.bans.length c3] 28 :: [ownD roomD r [.bool r.open_, .slice A1 r.members.length c1, .slice A2 r.invites.length c2, .slice A3 r.bans.length c3] F]) by rw [hW4]; (repeat (first | (with_reducible exact HS3.out) | (with_reducible apply St.alloc) | (with_reducible apply St.set0) | (with_reducible apply St.set1) | (with_reducible apply St.set2) | (with_reducible apply St.set3) | (with_reducible apply St.drew) | (with_reducible apply St.drewN))); all_goals (try (first | rfl | (simp; done))))
    clear hW4
    refine (roleOf_c r id _ _ _ _ (room_MK HS4.out.drop.drop.drop.head).1 (room_MK HS4.out.drop.drop.drop.head).2.1 (room_MK HS4.out.drop.drop.drop.head).2.2).mono ?_
    rintro e w5 ⟨rfl, hb⟩
    rw [show roOk r id = hasId r id from by unfold roOk; rw [valid_iff.2 HD.out.v, Bool.true_and]]
    have HS5 := hide (HS4.out.by hb)
    clear hb
    (try clear x0 x1 x2 x3 xz)
    obtain ⟨x0, x1, x2, x3⟩ := (HS5.out.at2).c4
    have xz := (HS5.out.at2).lt
    (try clear y0 y1 y2 y3 yz)
    obtain ⟨y0, y1, y2, y3⟩ := (HS5.out.at0).c4
    have yz := (HS5.out.at0).lt
    go_wp2_with fail
    go_loopg [12, 13] r.invites.length (fun gg s12 s13 wr => ∃ k : Nat, k ≤ r.invites.length ∧ r.invites.length - k ≤ gg ∧ s13 = .int .i64 k ∧ s12 = .bool ((r.invites.take k).any (invA id a)) ∧ w5 = wr)
    case atStart => exact ⟨0, Nat.zero_le _, by omega, rfl, by simp, rfl⟩
    case round =>
      obtain ⟨k, hk, hg, rfl, rfl, rfl⟩ := hrel
      by_cases hlt : k < r.invites.length
      · obtain ⟨y, hy⟩ : ∃ y, r.invites[k]? = some y := ⟨_, List.getElem?_eq_getElem hlt⟩
        obtain ⟨A2', c2', heq, hlc, hmx, hra⟩ := (room_MK HS5.out.drop.drop.drop.head).2.1
        simp only [Value.slice.injEq] at heq
        obtain ⟨rfl, -, rfl⟩ := heq
        rcases hra with hnil | ⟨q, o2, rfl, hra⟩
        · rw [hnil] at hlt; simp at hlt
        obtain ⟨hq, hc0, hc1, hc2⟩ := invite_at hra (Below.refl _ _) hy
        have HY := hide (any_take (p := invA id a) hy)
        have hlt2 : (k : Int) < (r.invites.length : Int) := by omega
        clear hy hra
        cases hp : (r.invites.take k).any (invA id a) with
        | true =>
          go_wp2_with fail
          go_roundg (r.invites.length - (k + 1))
          case measure => omega
          case rel => exact ⟨k + 1, by omega, by omega, by go_num, by rw [HY.out, hp]; rfl, rfl⟩
        | false =>
          by_cases e1 : y.id = id
          · subst e1
            by_cases e2 : a ≤ y.until_
            · go_wp2_with fail
              go_roundg (r.invites.length - (k + 1))
              case measure => omega
              case rel => exact ⟨k + 1, by omega, by omega, by go_num, by rw [HY.out, hp]; simp [invA, e2], rfl⟩
            · go_wp2_with fail
              go_roundg (r.invites.length - (k + 1))
              case measure => omega
              case rel => exact ⟨k + 1, by omega, by omega, by go_num, by rw [HY.out, hp]; simp [invA, e2], rfl⟩
          · go_wp2_with fail
            go_roundg (r.invites.length - (k + 1))
            case measure => omega
            case rel => exact ⟨k + 1, by omega, by omega, by go_num, by rw [HY.out, hp]; simp [invA, e1], rfl⟩
      · obtain rfl : k = r.invites.length := by omega
        rw [List.take_length, ← invited_any r id a]
        go_wp2_with fail
        go_loopg [14, 15] r.bans.length (fun gg s14 s15 wr => ∃ k : Nat, k ≤ r.bans.length ∧ r.bans.length - k ≤ gg ∧ s15 = .int .i64 k ∧ s14 = .bool ((r.bans.take k).any (banIs id)) ∧ w5 = wr)
        case atStart => exact ⟨0, Nat.zero_le _, by omega, rfl, by simp, rfl⟩
        case round =>
          obtain ⟨k, hk, hg, rfl, rfl, rfl⟩ := hrel
          by_cases hlt : k < r.bans.length
          · obtain ⟨y, hy⟩ : ∃ y, r.bans[k]? = some y := ⟨_, List.getElem?_eq_getElem hlt⟩
            obtain ⟨A2', c2', heq, hlc, hmx, hra⟩ := (room_MK HS5.out.drop.drop.drop.head).2.2
            simp only [Value.slice.injEq] at heq
            obtain ⟨rfl, -, rfl⟩ := heq
            rcases hra with hnil | ⟨q, o2, rfl, hra⟩
            · rw [hnil] at hlt; simp at hlt
            obtain ⟨hq, hc0, hc1⟩ := ban_at hra (Below.refl _ _) hy
            have HY := hide (any_take (p := banIs id) hy)
            have hlt2 : (k : Int) < (r.bans.length : Int) := by omega
            clear hy hra
            cases hp : (r.bans.take k).any (banIs id) with
            | true =>
              go_wp2_with fail
              go_roundg (r.bans.length - (k + 1))
              case measure => omega
              case rel => exact ⟨k + 1, by omega, by omega, by go_num, by rw [HY.out, hp]; rfl, rfl⟩
            | false =>
              by_cases e1 : y.id = id
              · subst e1
                go_wp2_with fail
                go_roundg (r.bans.length - (k + 1))
                case measure => omega
                case rel => exact ⟨k + 1, by omega, by omega, by go_num, by rw [HY.out, hp]; simp [banIs], rfl⟩
              · go_wp2_with fail
                go_roundg (r.bans.length - (k + 1))
                case measure => omega
                case rel => exact ⟨k + 1, by omega, by omega, by go_num, by rw [HY.out, hp]; simp [banIs, e1], rfl⟩
          · obtain rfl : k = r.bans.length := by omega
            rw [List.take_length, ← bann_any r id]
            have hJ := joined_ok (id := id) (a := a) HD.out i0 (by omega) a0 (by omega)
            have hLo := left_ok (id := id) HD.out
            have hm1 := HD.out.v.m1
            cases hM : hasId r id with
            | true =>
              rw [hM] at hJ hLo
              replace hJ : joinOk r id a = false := hJ
              by_cases hl : r.members.length = 1
              · have hl2 : ¬ (1 : Int) < (r.members.length : Int) := by omega
                have HL := hide (show leaveOk r id = false by rw [hLo]; simp [hl])
                clear hLo hl hM
                rw [hJ]
                clear hJ
                skip
                go_wp2_with fail
                refine (leaveRoom_c r id _ _ _ _ (room_MK HS5.out.drop.drop.drop.head).1 (room_MK HS5.out.drop.drop.drop.head).2.1 (room_MK HS5.out.drop.drop.drop.head).2.2).mono ?_
                rintro e w7 hr
                obtain ⟨cs, Fo, rfl, hK, hb, hS⟩ := HS5.out.elem2 hr
                obtain ⟨u1, u2, u3, rfl, g1, g2, g3⟩ := room_K hK
                obtain ⟨E1, e1, rfl⟩ := g1.shape
                obtain ⟨E2, e2, rfl⟩ := g2.shape
                obtain ⟨E3, e3, rfl⟩ := g3.shape
                have HS7 := hide hS
                clear hr hK hb hS g1 g2 g3
                (try clear x0 x1 x2 x3 xz)
                obtain ⟨x0, x1, x2, x3⟩ := (HS7.out.at3).c4
                have xz := (HS7.out.at3).lt
                (try clear y0 y1 y2 y3 yz)
                obtain ⟨y0, y1, y2, y3⟩ := (HS7.out.at1).c4
                have yz := (HS7.out.at1).lt
                rw [HL.out]
                go_wp2_with fail
                obtain ⟨W8, hW8⟩ : ∃ V, V = w7.alloc (.cells #[.bool (leaveV r id).open_, .slice E1 (leaveV r id).members.length e1, .slice E2 (leaveV r id).invites.length e2, .slice E3 (leaveV r id).bans.length e3] 28) := ⟨_, rfl⟩
                rw [← hW8]
                have HS8 := hide (show St w W8 (blk w7.heap.size #[.bool (leaveV r id).open_, .slice E1 (leaveV r id).members.length e1, .slice E2 (leaveV r id).invites.length e2, .slice E3 (leaveV r id).bans.length e3] 28 :: ownD roomD (leaveV r id) [.bool (leaveV r id).open_, .slice E1 (leaveV r id).members.length e1, .slice E2 (leaveV r id).invites.length e2, .slice E3 (leaveV r id).bans.length e3] Fo :: blk w3.heap.size #[.bool (joinV r id a).open_, .slice B1 (joinV r id a).members.length d1, .slice B2 (joinV r id a).invites.length d2, .slice B3 (joinV r id a).bans.length d3] 28 :: ownD roomD (joinV r id a) [.bool (joinV r id a).open_, .slice B1 (joinV r id a).members.length d1, .slice B2 (joinV r id a).invites.length d2, .slice B3 (joinV r id a).bans.length d3] Fj :: blk w1.heap.size #[.bool r.open_, .slice A1 r.members.length c1, .slice A2 r.invites.length c2, .slice A3 r.bans.length c3] 28 :: [ownD roomD r [.bool r.open_, .slice A1 r.members.length c1, .slice A2 r.invites.length c2, .slice A3 r.bans.length c3] F]) by rw [hW8]; (repeat (first | (with_reducible exact HS7.out) | (with_reducible apply St.alloc) | (with_reducible apply St.set0) | (with_reducible apply St.set1) | (with_reducible apply St.set2) | (with_reducible apply St.set3) | (with_reducible apply St.drew) | (with_reducible apply St.drewN))); all_goals (try (first | rfl | (simp; done))))
                clear hW8
                refine (roleOf_c (leaveV r id) id _ _ _ _ (room_MK HS8.out.drop.head).1 (room_MK HS8.out.drop.head).2.1 (room_MK HS8.out.drop.head).2.2).mono ?_
                rintro e w9 ⟨rfl, hb⟩
                rw [show roOk (leaveV r id) id = false from left_none HD.out]
                have HS9 := hide (HS8.out.by hb)
                clear hb
                (try clear x0 x1 x2 x3 xz)
                obtain ⟨x0, x1, x2, x3⟩ := (HS9.out.drop.at3).c4
                have xz := (HS9.out.drop.at3).lt
                (try clear y0 y1 y2 y3 yz)
                obtain ⟨y0, y1, y2, y3⟩ := (HS9.out.at2).c4
                have yz := (HS9.out.at2).lt
                (try clear z0 z1 z2 z3 zz)
                obtain ⟨z0, z1, z2, z3⟩ := (HS9.out.at0).c4
                have zz := (HS9.out.at0).lt
                go_wp2_with fail
                go_ret
                exact ⟨rfl, HS9.out.below⟩
              · have hl2 : (1 : Int) < (r.members.length : Int) := by omega
                have HL := hide (show leaveOk r id = true by rw [hLo]; simp [hl])
                clear hLo hl hM
                rw [hJ]
                clear hJ
                skip
                go_wp2_with fail
                refine (leaveRoom_c r id _ _ _ _ (room_MK HS5.out.drop.drop.drop.head).1 (room_MK HS5.out.drop.drop.drop.head).2.1 (room_MK HS5.out.drop.drop.drop.head).2.2).mono ?_
                rintro e w7 hr
                obtain ⟨cs, Fo, rfl, hK, hb, hS⟩ := HS5.out.elem2 hr
                obtain ⟨u1, u2, u3, rfl, g1, g2, g3⟩ := room_K hK
                obtain ⟨E1, e1, rfl⟩ := g1.shape
                obtain ⟨E2, e2, rfl⟩ := g2.shape
                obtain ⟨E3, e3, rfl⟩ := g3.shape
                have HS7 := hide hS
                clear hr hK hb hS g1 g2 g3
                (try clear x0 x1 x2 x3 xz)
                obtain ⟨x0, x1, x2, x3⟩ := (HS7.out.at3).c4
                have xz := (HS7.out.at3).lt
                (try clear y0 y1 y2 y3 yz)
                obtain ⟨y0, y1, y2, y3⟩ := (HS7.out.at1).c4
                have yz := (HS7.out.at1).lt
                rw [HL.out]
                go_wp2_with fail
                obtain ⟨W8, hW8⟩ : ∃ V, V = w7.alloc (.cells #[.bool (leaveV r id).open_, .slice E1 (leaveV r id).members.length e1, .slice E2 (leaveV r id).invites.length e2, .slice E3 (leaveV r id).bans.length e3] 28) := ⟨_, rfl⟩
                rw [← hW8]
                have HS8 := hide (show St w W8 (blk w7.heap.size #[.bool (leaveV r id).open_, .slice E1 (leaveV r id).members.length e1, .slice E2 (leaveV r id).invites.length e2, .slice E3 (leaveV r id).bans.length e3] 28 :: ownD roomD (leaveV r id) [.bool (leaveV r id).open_, .slice E1 (leaveV r id).members.length e1, .slice E2 (leaveV r id).invites.length e2, .slice E3 (leaveV r id).bans.length e3] Fo :: blk w3.heap.size #[.bool (joinV r id a).open_, .slice B1 (joinV r id a).members.length d1, .slice B2 (joinV r id a).invites.length d2, .slice B3 (joinV r id a).bans.length d3] 28 :: ownD roomD (joinV r id a) [.bool (joinV r id a).open_, .slice B1 (joinV r id a).members.length d1, .slice B2 (joinV r id a).invites.length d2, .slice B3 (joinV r id a).bans.length d3] Fj :: blk w1.heap.size #[.bool r.open_, .slice A1 r.members.length c1, .slice A2 r.invites.length c2, .slice A3 r.bans.length c3] 28 :: [ownD roomD r [.bool r.open_, .slice A1 r.members.length c1, .slice A2 r.invites.length c2, .slice A3 r.bans.length c3] F]) by rw [hW8]; (repeat (first | (with_reducible exact HS7.out) | (with_reducible apply St.alloc) | (with_reducible apply St.set0) | (with_reducible apply St.set1) | (with_reducible apply St.set2) | (with_reducible apply St.set3) | (with_reducible apply St.drew) | (with_reducible apply St.drewN))); all_goals (try (first | rfl | (simp; done))))
                clear hW8
                refine (roleOf_c (leaveV r id) id _ _ _ _ (room_MK HS8.out.drop.head).1 (room_MK HS8.out.drop.head).2.1 (room_MK HS8.out.drop.head).2.2).mono ?_
                rintro e w9 ⟨rfl, hb⟩
                rw [show roOk (leaveV r id) id = false from left_none HD.out]
                have HS9 := hide (HS8.out.by hb)
                clear hb
                (try clear x0 x1 x2 x3 xz)
                obtain ⟨x0, x1, x2, x3⟩ := (HS9.out.drop.at3).c4
                have xz := (HS9.out.drop.at3).lt
                (try clear y0 y1 y2 y3 yz)
                obtain ⟨y0, y1, y2, y3⟩ := (HS9.out.at2).c4
                have yz := (HS9.out.at2).lt
                (try clear z0 z1 z2 z3 zz)
                obtain ⟨z0, z1, z2, z3⟩ := (HS9.out.at0).c4
                have zz := (HS9.out.at0).lt
                go_wp2_with fail
                refine (validRoom_c (leaveV r id) _ _ _ _ (room_MK HS9.out.drop.head).1 (room_MK HS9.out.drop.head).2.1 (room_MK HS9.out.drop.head).2.2).mono ?_
                rintro e wA ⟨rfl, hb⟩
                rw [(left_parts HD.out HL.out).1]
                have HSA := hide (HS9.out.by hb)
                clear hb
                (try clear x0 x1 x2 x3 xz)
                obtain ⟨x0, x1, x2, x3⟩ := (HSA.out.drop.at3).c4
                have xz := (HSA.out.drop.at3).lt
                (try clear y0 y1 y2 y3 yz)
                obtain ⟨y0, y1, y2, y3⟩ := (HSA.out.at2).c4
                have yz := (HSA.out.at2).lt
                (try clear z0 z1 z2 z3 zz)
                obtain ⟨z0, z1, z2, z3⟩ := (HSA.out.at0).c4
                have zz := (HSA.out.at0).lt
                have hlen := (left_parts HD.out HL.out).2.2
                have hlen2 : ((leaveV r id).members.length : Int) = (r.members.length : Int) - 1 := by omega
                clear hlen
                have hb6 : (r.members.length : Int) ≤ 6 := by have := HD.out.len; omega
                have hb1 : 1 ≤ (r.members.length : Int) := by have := HD.out.v.m1; omega
                go_wp2_with fail
                go_ret
                exact ⟨rfl, HSA.out.below⟩
            | false =>
              rw [hM] at hJ hLo
              have HL := hide (show leaveOk r id = false from hLo)
              clear hLo hM
              cases hB : bannB r id with
              | true =>
                rw [hB] at hJ
                replace hJ : joinOk r id a = false := hJ
                clear hB
                rw [hJ]
                clear hJ
                skip
                go_wp2_with fail
                refine (leaveRoom_c r id _ _ _ _ (room_MK HS5.out.drop.drop.drop.head).1 (room_MK HS5.out.drop.drop.drop.head).2.1 (room_MK HS5.out.drop.drop.drop.head).2.2).mono ?_
                rintro e w7 hr
                obtain ⟨cs, Fo, rfl, hK, hb, hS⟩ := HS5.out.elem2 hr
                obtain ⟨u1, u2, u3, rfl, g1, g2, g3⟩ := room_K hK
                obtain ⟨E1, e1, rfl⟩ := g1.shape
                obtain ⟨E2, e2, rfl⟩ := g2.shape
                obtain ⟨E3, e3, rfl⟩ := g3.shape
                have HS7 := hide hS
                clear hr hK hb hS g1 g2 g3
                (try clear x0 x1 x2 x3 xz)
                obtain ⟨x0, x1, x2, x3⟩ := (HS7.out.at3).c4
                have xz := (HS7.out.at3).lt
                (try clear y0 y1 y2 y3 yz)
                obtain ⟨y0, y1, y2, y3⟩ := (HS7.out.at1).c4
                have yz := (HS7.out.at1).lt
                rw [HL.out]
                go_wp2_with fail
                obtain ⟨W8, hW8⟩ : ∃ V, V = w7.alloc (.cells #[.bool (leaveV r id).open_, .slice E1 (leaveV r id).members.length e1, .slice E2 (leaveV r id).invites.length e2, .slice E3 (leaveV r id).bans.length e3] 28) := ⟨_, rfl⟩
                rw [← hW8]
                have HS8 := hide (show St w W8 (blk w7.heap.size #[.bool (leaveV r id).open_, .slice E1 (leaveV r id).members.length e1, .slice E2 (leaveV r id).invites.length e2, .slice E3 (leaveV r id).bans.length e3] 28 :: ownD roomD (leaveV r id) [.bool (leaveV r id).open_, .slice E1 (leaveV r id).members.length e1, .slice E2 (leaveV r id).invites.length e2, .slice E3 (leaveV r id).bans.length e3] Fo :: blk w3.heap.size #[.bool (joinV r id a).open_, .slice B1 (joinV r id a).members.length d1, .slice B2 (joinV r id a).invites.length d2, .slice B3 (joinV r id a).bans.length d3] 28 :: ownD roomD (joinV r id a) [.bool (joinV r id a).open_, .slice B1 (joinV r id a).members.length d1, .slice B2 (joinV r id a).invites.length d2, .slice B3 (joinV r id a).bans.length d3] Fj :: blk w1.heap.size #[.bool r.open_, .slice A1 r.members.length c1, .slice A2 r.invites.length c2, .slice A3 r.bans.length c3] 28 :: [ownD roomD r [.bool r.open_, .slice A1 r.members.length c1, .slice A2 r.invites.length c2, .slice A3 r.bans.length c3] F]) by rw [hW8]; (repeat (first | (with_reducible exact HS7.out) | (with_reducible apply St.alloc) | (with_reducible apply St.set0) | (with_reducible apply St.set1) | (with_reducible apply St.set2) | (with_reducible apply St.set3) | (with_reducible apply St.drew) | (with_reducible apply St.drewN))); all_goals (try (first | rfl | (simp; done))))
                clear hW8
                refine (roleOf_c (leaveV r id) id _ _ _ _ (room_MK HS8.out.drop.head).1 (room_MK HS8.out.drop.head).2.1 (room_MK HS8.out.drop.head).2.2).mono ?_
                rintro e w9 ⟨rfl, hb⟩
                rw [show roOk (leaveV r id) id = false from left_none HD.out]
                have HS9 := hide (HS8.out.by hb)
                clear hb
                (try clear x0 x1 x2 x3 xz)
                obtain ⟨x0, x1, x2, x3⟩ := (HS9.out.drop.at3).c4
                have xz := (HS9.out.drop.at3).lt
                (try clear y0 y1 y2 y3 yz)
                obtain ⟨y0, y1, y2, y3⟩ := (HS9.out.at2).c4
                have yz := (HS9.out.at2).lt
                (try clear z0 z1 z2 z3 zz)
                obtain ⟨z0, z1, z2, z3⟩ := (HS9.out.at0).c4
                have zz := (HS9.out.at0).lt
                go_wp2_with fail
                go_ret
                exact ⟨rfl, HS9.out.below⟩
              | false =>
                rw [hB] at hJ
                clear hB
                by_cases hO : r.open_ = true
                · replace hJ : joinOk r id a = true := by rw [hJ, hO]; rfl
                  rw [hJ]
                  have hJt := hide hJ
                  obtain ⟨j1, j2, j3, j4, j5, j6⟩ := joined_parts HD.out hJ
                  have j7 := (joinOk_parts hJ).2.1
                  have J := hide (And.intro j1 (And.intro j2 (And.intro j3 (And.intro j4 (And.intro j5 (And.intro j6 j7))))))
                  clear hJ j1 j2 j3 j4 j5 j6 j7
                  go_wp2_with fail
                  clear hO
                  refine (roleOf_c (joinV r id a) id _ _ _ _ (room_MK HS5.out.drop.head).1 (room_MK HS5.out.drop.head).2.1 (room_MK HS5.out.drop.head).2.2).mono ?_
                  rintro e w6 ⟨rfl, hb⟩
                  rw [J.out.1, J.out.2.1]
                  have HS6 := hide (HS5.out.by hb)
                  clear hb
                  (try clear x0 x1 x2 x3 xz)
                  obtain ⟨x0, x1, x2, x3⟩ := (HS6.out.at2).c4
                  have xz := (HS6.out.at2).lt
                  (try clear y0 y1 y2 y3 yz)
                  obtain ⟨y0, y1, y2, y3⟩ := (HS6.out.at0).c4
                  have yz := (HS6.out.at0).lt
                  go_wp2_with fail
                  refine (leaveRoom_c (joinV r id a) id _ _ _ _ (room_MK HS6.out.drop.head).1 (room_MK HS6.out.drop.head).2.1 (room_MK HS6.out.drop.head).2.2).mono ?_
                  rintro e w7 hr
                  obtain ⟨cs, Fo, rfl, hK, hb, hS⟩ := HS6.out.elem2 hr
                  obtain ⟨u1, u2, u3, rfl, g1, g2, g3⟩ := room_K hK
                  obtain ⟨E1, e1, rfl⟩ := g1.shape
                  obtain ⟨E2, e2, rfl⟩ := g2.shape
                  obtain ⟨E3, e3, rfl⟩ := g3.shape
                  have HS7 := hide hS
                  clear hr hK hb hS g1 g2 g3
                  rw [J.out.2.2.2.1]
                  (try clear x0 x1 x2 x3 xz)
                  obtain ⟨x0, x1, x2, x3⟩ := (HS7.out.at3).c4
                  have xz := (HS7.out.at3).lt
                  (try clear y0 y1 y2 y3 yz)
                  obtain ⟨y0, y1, y2, y3⟩ := (HS7.out.at1).c4
                  have yz := (HS7.out.at1).lt
                  go_wp2_with fail
                  obtain ⟨W8, hW8⟩ : ∃ V, V = w7.alloc (.cells #[.bool (leaveV (joinV r id a) id).open_, .slice E1 (leaveV (joinV r id a) id).members.length e1, .slice E2 (leaveV (joinV r id a) id).invites.length e2, .slice E3 (leaveV (joinV r id a) id).bans.length e3] 28) := ⟨_, rfl⟩
                  rw [← hW8]
                  have HS8 := hide (show St w W8 (blk w7.heap.size #[.bool (leaveV (joinV r id a) id).open_, .slice E1 (leaveV (joinV r id a) id).members.length e1, .slice E2 (leaveV (joinV r id a) id).invites.length e2, .slice E3 (leaveV (joinV r id a) id).bans.length e3] 28 :: ownD roomD (leaveV (joinV r id a) id) [.bool (leaveV (joinV r id a) id).open_, .slice E1 (leaveV (joinV r id a) id).members.length e1, .slice E2 (leaveV (joinV r id a) id).invites.length e2, .slice E3 (leaveV (joinV r id a) id).bans.length e3] Fo :: blk w3.heap.size #[.bool (joinV r id a).open_, .slice B1 (joinV r id a).members.length d1, .slice B2 (joinV r id a).invites.length d2, .slice B3 (joinV r id a).bans.length d3] 28 :: ownD roomD (joinV r id a) [.bool (joinV r id a).open_, .slice B1 (joinV r id a).members.length d1, .slice B2 (joinV r id a).invites.length d2, .slice B3 (joinV r id a).bans.length d3] Fj :: blk w1.heap.size #[.bool r.open_, .slice A1 r.members.length c1, .slice A2 r.invites.length c2, .slice A3 r.bans.length c3] 28 :: [ownD roomD r [.bool r.open_, .slice A1 r.members.length c1, .slice A2 r.invites.length c2, .slice A3 r.bans.length c3] F]) by rw [hW8]; (repeat (first | (with_reducible exact HS7.out) | (with_reducible apply St.alloc) | (with_reducible apply St.set0) | (with_reducible apply St.set1) | (with_reducible apply St.set2) | (with_reducible apply St.set3) | (with_reducible apply St.drew) | (with_reducible apply St.drewN))); all_goals (try (first | rfl | (simp; done))))
                  clear hW8
                  refine (validRoom_c (joinV r id a) _ _ _ _ (room_MK HS8.out.drop.drop.drop.head).1 (room_MK HS8.out.drop.drop.drop.head).2.1 (room_MK HS8.out.drop.drop.drop.head).2.2).mono ?_
                  rintro e w9 ⟨rfl, hb⟩
                  rw [J.out.2.2.2.2.2.2]
                  have HS9 := hide (HS8.out.by hb)
                  clear hb
                  (try clear x0 x1 x2 x3 xz)
                  obtain ⟨x0, x1, x2, x3⟩ := (HS9.out.drop.at3).c4
                  have xz := (HS9.out.drop.at3).lt
                  (try clear y0 y1 y2 y3 yz)
                  obtain ⟨y0, y1, y2, y3⟩ := (HS9.out.at2).c4
                  have yz := (HS9.out.at2).lt
                  (try clear z0 z1 z2 z3 zz)
                  obtain ⟨z0, z1, z2, z3⟩ := (HS9.out.at0).c4
                  have zz := (HS9.out.at0).lt
                  go_wp2_with fail
                  refine (validRoom_c (leaveV (joinV r id a) id) _ _ _ _ (room_MK HS9.out.drop.head).1 (room_MK HS9.out.drop.head).2.1 (room_MK HS9.out.drop.head).2.2).mono ?_
                  rintro e wA ⟨rfl, hb⟩
                  rw [J.out.2.2.2.2.2.1]
                  have HSA := hide (HS9.out.by hb)
                  clear hb
                  (try clear x0 x1 x2 x3 xz)
                  obtain ⟨x0, x1, x2, x3⟩ := (HSA.out.drop.at3).c4
                  have xz := (HSA.out.drop.at3).lt
                  (try clear y0 y1 y2 y3 yz)
                  obtain ⟨y0, y1, y2, y3⟩ := (HSA.out.at2).c4
                  have yz := (HSA.out.at2).lt
                  (try clear z0 z1 z2 z3 zz)
                  obtain ⟨z0, z1, z2, z3⟩ := (HSA.out.at0).c4
                  have zz := (HSA.out.at0).lt
                  go_wp2_with fail
                  refine (r8Members_c _ _ _ _ _ (room_MK HSA.out.drop.head).1 (room_MK HSA.out.drop.drop.drop.drop.drop.head).1).mono ?_
                  rintro e wB ⟨rfl, hb⟩
                  rw [decide_eq_true J.out.2.2.2.2.1]
                  have HSB := hide (HSA.out.by hb)
                  clear hb
                  (try clear x0 x1 x2 x3 xz)
                  obtain ⟨x0, x1, x2, x3⟩ := (HSB.out.drop.at3).c4
                  have xz := (HSB.out.drop.at3).lt
                  (try clear y0 y1 y2 y3 yz)
                  obtain ⟨y0, y1, y2, y3⟩ := (HSB.out.at2).c4
                  have yz := (HSB.out.at2).lt
                  (try clear z0 z1 z2 z3 zz)
                  obtain ⟨z0, z1, z2, z3⟩ := (HSB.out.at0).c4
                  have zz := (HSB.out.at0).lt
                  have hlen := J.out.2.2.1
                  have hlen2 : ((joinV r id a).members.length : Int) = (r.members.length : Int) + 1 := by omega
                  clear hlen
                  have hb6 : (r.members.length : Int) ≤ 6 := by have := HD.out.len; omega
                  have hb1 : 1 ≤ (r.members.length : Int) := by have := HD.out.v.m1; omega
                  go_wp2_with fail
                  go_ret
                  exact ⟨rfl, HSB.out.below⟩
                · replace hO : r.open_ = false := by simpa using hO
                  cases hI : invitedB r id a with
                  | true =>
                    replace hJ : joinOk r id a = true := by rw [hJ, hI, hO]; rfl
                    clear hI
                    rw [hJ]
                    have hJt := hide hJ
                    obtain ⟨j1, j2, j3, j4, j5, j6⟩ := joined_parts HD.out hJ
                    have j7 := (joinOk_parts hJ).2.1
                    have J := hide (And.intro j1 (And.intro j2 (And.intro j3 (And.intro j4 (And.intro j5 (And.intro j6 j7))))))
                    clear hJ j1 j2 j3 j4 j5 j6 j7
                    go_wp2_with fail
                    clear hO
                    refine (roleOf_c (joinV r id a) id _ _ _ _ (room_MK HS5.out.drop.head).1 (room_MK HS5.out.drop.head).2.1 (room_MK HS5.out.drop.head).2.2).mono ?_
                    rintro e w6 ⟨rfl, hb⟩
                    rw [J.out.1, J.out.2.1]
                    have HS6 := hide (HS5.out.by hb)
                    clear hb
                    (try clear x0 x1 x2 x3 xz)
                    obtain ⟨x0, x1, x2, x3⟩ := (HS6.out.at2).c4
                    have xz := (HS6.out.at2).lt
                    (try clear y0 y1 y2 y3 yz)
                    obtain ⟨y0, y1, y2, y3⟩ := (HS6.out.at0).c4
                    have yz := (HS6.out.at0).lt
                    go_wp2_with fail
                    refine (leaveRoom_c (joinV r id a) id _ _ _ _ (room_MK HS6.out.drop.head).1 (room_MK HS6.out.drop.head).2.1 (room_MK HS6.out.drop.head).2.2).mono ?_
                    rintro e w7 hr
                    obtain ⟨cs, Fo, rfl, hK, hb, hS⟩ := HS6.out.elem2 hr
                    obtain ⟨u1, u2, u3, rfl, g1, g2, g3⟩ := room_K hK
                    obtain ⟨E1, e1, rfl⟩ := g1.shape
                    obtain ⟨E2, e2, rfl⟩ := g2.shape
                    obtain ⟨E3, e3, rfl⟩ := g3.shape
                    have HS7 := hide hS
                    clear hr hK hb hS g1 g2 g3
                    rw [J.out.2.2.2.1]
                    (try clear x0 x1 x2 x3 xz)
                    obtain ⟨x0, x1, x2, x3⟩ := (HS7.out.at3).c4
                    have xz := (HS7.out.at3).lt
                    (try clear y0 y1 y2 y3 yz)
                    obtain ⟨y0, y1, y2, y3⟩ := (HS7.out.at1).c4
                    have yz := (HS7.out.at1).lt
                    go_wp2_with fail
                    obtain ⟨W8, hW8⟩ : ∃ V, V = w7.alloc (.cells #[.bool (leaveV (joinV r id a) id).open_, .slice E1 (leaveV (joinV r id a) id).members.length e1, .slice E2 (leaveV (joinV r id a) id).invites.length e2, .slice E3 (leaveV (joinV r id a) id).bans.length e3] 28) := ⟨_, rfl⟩
                    rw [← hW8]
                    have HS8 := hide (show St w W8 (blk w7.heap.size #[.bool (leaveV (joinV r id a) id).open_, .slice E1 (leaveV (joinV r id a) id).members.length e1, .slice E2 (leaveV (joinV r id a) id).invites.length e2, .slice E3 (leaveV (joinV r id a) id).bans.length e3] 28 :: ownD roomD (leaveV (joinV r id a) id) [.bool (leaveV (joinV r id a) id).open_, .slice E1 (leaveV (joinV r id a) id).members.length e1, .slice E2 (leaveV (joinV r id a) id).invites.length e2, .slice E3 (leaveV (joinV r id a) id).bans.length e3] Fo :: blk w3.heap.size #[.bool (joinV r id a).open_, .slice B1 (joinV r id a).members.length d1, .slice B2 (joinV r id a).invites.length d2, .slice B3 (joinV r id a).bans.length d3] 28 :: ownD roomD (joinV r id a) [.bool (joinV r id a).open_, .slice B1 (joinV r id a).members.length d1, .slice B2 (joinV r id a).invites.length d2, .slice B3 (joinV r id a).bans.length d3] Fj :: blk w1.heap.size #[.bool r.open_, .slice A1 r.members.length c1, .slice A2 r.invites.length c2, .slice A3 r.bans.length c3] 28 :: [ownD roomD r [.bool r.open_, .slice A1 r.members.length c1, .slice A2 r.invites.length c2, .slice A3 r.bans.length c3] F]) by rw [hW8]; (repeat (first | (with_reducible exact HS7.out) | (with_reducible apply St.alloc) | (with_reducible apply St.set0) | (with_reducible apply St.set1) | (with_reducible apply St.set2) | (with_reducible apply St.set3) | (with_reducible apply St.drew) | (with_reducible apply St.drewN))); all_goals (try (first | rfl | (simp; done))))
                    clear hW8
                    refine (validRoom_c (joinV r id a) _ _ _ _ (room_MK HS8.out.drop.drop.drop.head).1 (room_MK HS8.out.drop.drop.drop.head).2.1 (room_MK HS8.out.drop.drop.drop.head).2.2).mono ?_
                    rintro e w9 ⟨rfl, hb⟩
                    rw [J.out.2.2.2.2.2.2]
                    have HS9 := hide (HS8.out.by hb)
                    clear hb
                    (try clear x0 x1 x2 x3 xz)
                    obtain ⟨x0, x1, x2, x3⟩ := (HS9.out.drop.at3).c4
                    have xz := (HS9.out.drop.at3).lt
                    (try clear y0 y1 y2 y3 yz)
                    obtain ⟨y0, y1, y2, y3⟩ := (HS9.out.at2).c4
                    have yz := (HS9.out.at2).lt
                    (try clear z0 z1 z2 z3 zz)
                    obtain ⟨z0, z1, z2, z3⟩ := (HS9.out.at0).c4
                    have zz := (HS9.out.at0).lt
                    go_wp2_with fail
                    refine (validRoom_c (leaveV (joinV r id a) id) _ _ _ _ (room_MK HS9.out.drop.head).1 (room_MK HS9.out.drop.head).2.1 (room_MK HS9.out.drop.head).2.2).mono ?_
                    rintro e wA ⟨rfl, hb⟩
                    rw [J.out.2.2.2.2.2.1]
                    have HSA := hide (HS9.out.by hb)
                    clear hb
                    (try clear x0 x1 x2 x3 xz)
                    obtain ⟨x0, x1, x2, x3⟩ := (HSA.out.drop.at3).c4
                    have xz := (HSA.out.drop.at3).lt
                    (try clear y0 y1 y2 y3 yz)
                    obtain ⟨y0, y1, y2, y3⟩ := (HSA.out.at2).c4
                    have yz := (HSA.out.at2).lt
                    (try clear z0 z1 z2 z3 zz)
                    obtain ⟨z0, z1, z2, z3⟩ := (HSA.out.at0).c4
                    have zz := (HSA.out.at0).lt
                    go_wp2_with fail
                    refine (r8Members_c _ _ _ _ _ (room_MK HSA.out.drop.head).1 (room_MK HSA.out.drop.drop.drop.drop.drop.head).1).mono ?_
                    rintro e wB ⟨rfl, hb⟩
                    rw [decide_eq_true J.out.2.2.2.2.1]
                    have HSB := hide (HSA.out.by hb)
                    clear hb
                    (try clear x0 x1 x2 x3 xz)
                    obtain ⟨x0, x1, x2, x3⟩ := (HSB.out.drop.at3).c4
                    have xz := (HSB.out.drop.at3).lt
                    (try clear y0 y1 y2 y3 yz)
                    obtain ⟨y0, y1, y2, y3⟩ := (HSB.out.at2).c4
                    have yz := (HSB.out.at2).lt
                    (try clear z0 z1 z2 z3 zz)
                    obtain ⟨z0, z1, z2, z3⟩ := (HSB.out.at0).c4
                    have zz := (HSB.out.at0).lt
                    have hlen := J.out.2.2.1
                    have hlen2 : ((joinV r id a).members.length : Int) = (r.members.length : Int) + 1 := by omega
                    clear hlen
                    have hb6 : (r.members.length : Int) ≤ 6 := by have := HD.out.len; omega
                    have hb1 : 1 ≤ (r.members.length : Int) := by have := HD.out.v.m1; omega
                    go_wp2_with fail
                    go_ret
                    exact ⟨rfl, HSB.out.below⟩
                  | false =>
                    replace hJ : joinOk r id a = false := by rw [hJ, hI, hO]; rfl
                    clear hI
                    have hcon := leaveRoom_c r id _ _ _ _ (room_MK HS5.out.drop.drop.drop.head).1 (room_MK HS5.out.drop.drop.drop.head).2.1 (room_MK HS5.out.drop.drop.drop.head).2.2
                    rw [hO] at hcon
                    rw [hJ]
                    clear hJ
                    skip
                    go_wp2_with fail
                    refine (hcon).mono ?_
                    rintro e w7 hr
                    obtain ⟨cs, Fo, rfl, hK, hb, hS⟩ := HS5.out.elem2 hr
                    obtain ⟨u1, u2, u3, rfl, g1, g2, g3⟩ := room_K hK
                    obtain ⟨E1, e1, rfl⟩ := g1.shape
                    obtain ⟨E2, e2, rfl⟩ := g2.shape
                    obtain ⟨E3, e3, rfl⟩ := g3.shape
                    have HS7 := hide hS
                    clear hr hK hb hS g1 g2 g3
                    (try clear x0 x1 x2 x3 xz)
                    obtain ⟨x0, x1, x2, x3⟩ := (HS7.out.at3).c4
                    have xz := (HS7.out.at3).lt
                    (try clear y0 y1 y2 y3 yz)
                    obtain ⟨y0, y1, y2, y3⟩ := (HS7.out.at1).c4
                    have yz := (HS7.out.at1).lt
                    rw [HL.out]
                    go_wp2_with fail
                    obtain ⟨W8, hW8⟩ : ∃ V, V = w7.alloc (.cells #[.bool (leaveV r id).open_, .slice E1 (leaveV r id).members.length e1, .slice E2 (leaveV r id).invites.length e2, .slice E3 (leaveV r id).bans.length e3] 28) := ⟨_, rfl⟩
                    rw [← hW8]
                    have HS8 := hide (show St w W8 (blk w7.heap.size #[.bool (leaveV r id).open_, .slice E1 (leaveV r id).members.length e1, .slice E2 (leaveV r id).invites.length e2, .slice E3 (leaveV r id).bans.length e3] 28 :: ownD roomD (leaveV r id) [.bool (leaveV r id).open_, .slice E1 (leaveV r id).members.length e1, .slice E2 (leaveV r id).invites.length e2, .slice E3 (leaveV r id).bans.length e3] Fo :: blk w3.heap.size #[.bool (joinV r id a).open_, .slice B1 (joinV r id a).members.length d1, .slice B2 (joinV r id a).invites.length d2, .slice B3 (joinV r id a).bans.length d3] 28 :: ownD roomD (joinV r id a) [.bool (joinV r id a).open_, .slice B1 (joinV r id a).members.length d1, .slice B2 (joinV r id a).invites.length d2, .slice B3 (joinV r id a).bans.length d3] Fj :: blk w1.heap.size #[.bool r.open_, .slice A1 r.members.length c1, .slice A2 r.invites.length c2, .slice A3 r.bans.length c3] 28 :: [ownD roomD r [.bool r.open_, .slice A1 r.members.length c1, .slice A2 r.invites.length c2, .slice A3 r.bans.length c3] F]) by rw [hW8]; (repeat (first | (with_reducible exact HS7.out) | (with_reducible apply St.alloc) | (with_reducible apply St.set0) | (with_reducible apply St.set1) | (with_reducible apply St.set2) | (with_reducible apply St.set3) | (with_reducible apply St.drew) | (with_reducible apply St.drewN))); all_goals (try (first | rfl | (simp; done))))
                    clear hW8
                    refine (roleOf_c (leaveV r id) id _ _ _ _ (room_MK HS8.out.drop.head).1 (room_MK HS8.out.drop.head).2.1 (room_MK HS8.out.drop.head).2.2).mono ?_
                    rintro e w9 ⟨rfl, hb⟩
                    rw [show roOk (leaveV r id) id = false from left_none HD.out]
                    have HS9 := hide (HS8.out.by hb)
                    clear hb
                    (try clear x0 x1 x2 x3 xz)
                    obtain ⟨x0, x1, x2, x3⟩ := (HS9.out.drop.at3).c4
                    have xz := (HS9.out.drop.at3).lt
                    (try clear y0 y1 y2 y3 yz)
                    obtain ⟨y0, y1, y2, y3⟩ := (HS9.out.at2).c4
                    have yz := (HS9.out.at2).lt
                    (try clear z0 z1 z2 z3 zz)
                    obtain ⟨z0, z1, z2, z3⟩ := (HS9.out.at0).c4
                    have zz := (HS9.out.at0).lt
                    go_wp2_with fail
                    go_ret
                    exact ⟨rfl, HS9.out.below⟩
end Go.Proofs.YtglhepbcbildpaaGreat
